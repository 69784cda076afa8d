/- What functions of the program compute, as plain functions, and that a call gives just that. Conditions: those named in each theorem. -/
import Derived.Test.YtlfpejnpjpmejaaGreatDoorGShl
import Derived.Test.YtlfpejnpjpmejaaGreatDoorRows
set_option linter.unusedVariables false
namespace Go.Proofs
open Go.G Go.RowKit
set_option maxRecDepth 100000
set_option maxHeartbeats 4000000
variable {M : Nat → Prop} {w : World} {pa0 pa1 pa2 pa3 pa4 pa5 pa6 pa7 : Option Addr} {pn0 pc0 pn1 pc1 pn2 pc2 pn3 pc3 pn4 pc4 pn5 pc5 pn6 pc6 pn7 pc7 : Nat}

theorem Sl48 : SlT Tryz.prog 48 3 := Tryz.underlying48

def zao (M : Nat → Prop) (w0 : World) (r : Int) (a : Act) (w : World) : Prop :=
  ∃ σ,a = fr 12 (ovl σ [(4,(iv r))]) ∧ Chg [] w0 w
def YZ (a_ : List Int) (left : Int) : Option (Int) :=
  (bif (decide ((w64 (left - (a_.length : Int))) < 0)) then some (-1) else some (w64 (left - (a_.length : Int))))
theorem zat (a_ : List Int) (left : Int) (h0 : rl.val M w (sv pa0 pn0 pc0) a_ []) (hM : Hm w M) {r : Int} (hs : YZ a_ left = some r) :
    Gives Tryz.prog 61 [(sv pa0 pn0 pc0),(iv left)] w (fun v w' => v = (iv r) ∧ Chg [] w w') := by
 refine zx Tryz.func61 rfl Tryz.ntmps61 (nl rfl) ?_;obtain ⟨hO,hC⟩ := st0 hM;unfold YZ at hs;refine wp_k (K := (zao M w r)) (by rintro _ _ ⟨σ,rfl,hrest⟩; exact Zd Tryz.results61 (zH rfl) ⟨rfl,hrest⟩) (c_sr (ai rfl (zb (c_sr (mi rfl (ms rfl (za _ (zt Sl48 (zB h0) rfl) (za _ (ysu rfl rfl) (ai rfl (zb (ze (c_sr (mi rfl (za _ (zA rfl rfl) (zb ?_)))))))))))))));rcases zm hs with ⟨a0,hs⟩ | ⟨a0,hs⟩
 ·refine zl (cb a0) (c_sr (ai rfl (zb (wp_ret ?_))));cases hs;exact ⟨_,fr_m 12 rfl,hC⟩
 refine zk (cb a0) (wp_skip (c_sr (mi rfl (ai rfl (zb (wp_ret ?_))))));cases hs;exact ⟨_,fr_m 12 rfl,hC⟩

theorem Fa55x1 : ∀ (a : Addr) (w : World),(Instr.fieldAt 55 (.pointer (some a)) 1).run Tryz.prog w = .ok (.pointer (some (a.add 1))) w := fun _ _ => by kernel_rfl

theorem Ag48 : AggT Tryz.prog 48 false := fun _ => by kernel_rfl

theorem Sz48 : SzT Tryz.prog 48 1 := ⟨_,rfl,rfl⟩

theorem Bd61 : zK Tryz.prog 61 := zP Tryz.func61 (by kernel_rfl) rfl

def zcr (M : Nat → Prop) (w0 : World) (r : Int) (a : Act) (w : World) : Prop :=
  ∃ σ,a = fr 12 (ovl σ [(4,(iv r))]) ∧ Chg [] w0 w
def xY (a_ : Int × (List Int)) (left : Int) : Option (Int) :=
  (YZ a_.2 left).bind fun r4 =>
  (bif (decide (r4 < 0)) then some (-1) else some r4)
theorem zbP (a_ : Int × (List Int)) (left : Int) (h0 : rl.val M w (sv pa0 pn0 pc0) a_.2 []) (hM : Hm w M) {r : Int} (hs : xY a_ left = some r) :
    Gives Tryz.prog 30 [(.agg #[(iv a_.1),(sv pa0 pn0 pc0)]),(iv left)] w (fun v w' => v = (iv r) ∧ Chg [] w w') := by
 refine zx Tryz.func30 rfl Tryz.ntmps30 (nl rfl) ?_;obtain ⟨hO,hC⟩ := st0 hM;unfold xY at hs;refine wp_k (K := (zcr M w r)) (by rintro _ _ ⟨σ,rfl,hrest⟩; exact Zd Tryz.results30 (zH rfl) ⟨rfl,hrest⟩) (c_sr ?_);obtain ⟨a6,a4,a7,a5,a2,a0⟩ := zg w [(iv a_.1),(sv pa0 pn0 pc0)] 55;refine za (w' := a6) (pq a4 0) (Zx rfl (by rw [a7,a5]; kernel_rfl)) ?_;obtain ⟨h0,hC⟩ := xt2 a2 h0 hC;have hO := hO.new1 a2 a5 a0.lt;refine ai rfl (zb (c_sr (za (pq a4 1) (zj rfl Fa55x1) (za _ (ld rfl Ag48 Sz48 a0 rfl) (mi rfl ?_)))));obtain ⟨r4,a8,hs⟩ := bq hs;refine zC Bd61 rfl (zat (M := M) a_.2 left h0 hO.fut a8) ?_;rintro _ b0 ⟨rfl,a1⟩;obtain ⟨h0,a0,hC,hO⟩ := xt4 a1 h0 a0 hC hO;refine ai rfl (zb ?_);have hO := hO.drop;refine ze (c_sr (mi rfl (za _ (zA rfl rfl) (zb ?_))));rcases zm hs with ⟨a3,hs⟩ | ⟨a3,hs⟩
 ·refine zl (cb a3) (c_sr (ai rfl (zb (wp_ret ?_))));cases hs;exact ⟨_,fr_m 12 rfl,hC⟩
 refine zk (cb a3) (wp_skip (c_sr (mi rfl (ai rfl (zb (wp_ret ?_))))));cases hs;exact ⟨_,fr_m 12 rfl,hC⟩

theorem Sl22 : SlT Tryz.prog 22 55 := Tryz.underlying22

theorem Sz55 : SzT Tryz.prog 55 2 := ⟨_,rfl,rfl⟩

theorem Ag55 : AggT Tryz.prog 55 true := fun _ => by kernel_rfl

theorem Bd30 : zK Tryz.prog 30 := zP Tryz.func30 (by kernel_rfl) rfl

def Vv (M : Nat → Prop) (w0 : World) (r : Int) (a : Act) (w : World) : Prop :=
  ∃ σ,a = fr 27 (ovl σ [(4,(iv r))]) ∧ Chg [] w0 w
def XU (a_ : List (Int × (List Int))) (left : Int) : Option (Int) :=
  (bif (decide ((w64 (left - (a_.length : Int))) < 0)) then some (-1) else (forC (S := Int) (R := Int) (fun k12 s10 =>
  (idx a_ k12).bind fun x16 =>
  (xY (x16.1,x16.2) s10).bind fun r21 =>
  (bif (decide (r21 < 0)) then some (.rt (-1)) else some (.nx r21))) 0 (a_.length : Int) (w64 (left - (a_.length : Int)))).bind fun o14 => after o14 (fun r_ => some r_) (fun s10 =>
  some s10))
theorem zaW (a_ : List (Int × (List Int))) (left : Int) (h0 : rp.val M w (sv pa0 pn0 pc0) a_ []) (hM : Hm w M) {r : Int} (hs : XU a_ left = some r) :
    Gives Tryz.prog 15 [(sv pa0 pn0 pc0),(iv left)] w (fun v w' => v = (iv r) ∧ Chg [] w w') := by
 refine zx Tryz.func15 rfl Tryz.ntmps15 (nl rfl) ?_;obtain ⟨hO,hC⟩ := st0 hM;unfold XU at hs;refine wp_k (K := (Vv M w r)) (by rintro _ _ ⟨σ,rfl,hrest⟩; exact Zd Tryz.results15 (zH rfl) ⟨rfl,hrest⟩) (c_sr (ai rfl (zb (c_sr (mi rfl (ms rfl (za _ (zt Sl22 (zB h0) rfl) (za _ (ysu rfl rfl) (ai rfl (zb (ze (c_sr (mi rfl (za _ (zA rfl rfl) (zb ?_)))))))))))))));rcases zm hs with ⟨a2,hs⟩ | ⟨a2,hs⟩
 ·refine zl (cb a2) (c_sr (ai rfl (zb (wp_ret ?_))));cases hs;exact ⟨_,fr_m 27 rfl,hC⟩
 refine zk (cb a2) (wp_skip (ze (c_sr (ai rfl (zb ?_)))));obtain ⟨o14,a7,hs⟩ := bq hs;refine wp_block (zU (id := 0) (a_.length : Int) (I := fun k12 s10 a a0 => ∃ σ,a = fr 27 (ovl σ [(0,(sv pa0 pn0 pc0)),(1,(iv s10)),(5,(iv k12))]) ∧ Chg [] w a0 ∧ Own (Nw w []) M a0 [] ∧ rp.val M a0 (sv pa0 pn0 pc0) a_ []) (J := fun s10 a a0 => ∃ σ,a = fr 27 (ovl σ [(1,(iv s10))]) ∧ Chg [] w a0 ∧ Own (Nw w []) M a0 [] ∧ rp.val M a0 (sv pa0 pn0 pc0) a_ []) (K := (Vv M w)) ?_ ?_ 0 (w64 (left - (a_.length : Int))) o14 _ _ ?_ a7 ?_)
 ·rintro k12 s10 a a0 ⟨σ,rfl,hC,hO,h0⟩ hlt;refine ze (c_sr (mi rfl (ms rfl (za _ (zt Sl22 (zB h0) rfl) (za _ (zA rfl rfl) (zb (zk (df hlt) (wp_exit ?_))))))));exact ⟨rfl,_,fr_m 27 rfl,hC,hO,h0⟩
 ·rintro k12 s10 o14 a a0 ⟨σ,rfl,hC,hO,h0⟩ hlt hw hs;refine ze (c_sr (mi rfl (ms rfl (za _ (zt Sl22 (zB h0) rfl) (za _ (zA rfl rfl) (zb (zl (dt hlt) (wp_skip (ze (wp_block (c_sr (ms rfl (mi rfl ?_)))))))))))));obtain ⟨x16,a8,hs⟩ := bq hs;obtain ⟨a9,b0,b1,a3⟩ := zI Sl22 Sz55 h0 a8;refine za _ (ip b1 rfl rfl) ?_;obtain ⟨c2,b2,b3⟩ := zT Ag55 Sz55 (by intro h; cases h) a3;obtain ⟨c3,rfl,b4⟩ := b3;obtain ⟨c4,c5,rfl,b5,b6⟩ := YG b4;obtain rfl := xy b5;obtain ⟨b7,b8,b9,rfl,a4⟩ := xb b6;refine za (.agg #[(iv x16.1),(sv b7 b8 b9)]) (zo rfl (b2 _ (Chg.refl _ _))) (mi rfl ?_);obtain ⟨r21,c0,hs⟩ := bq hs;refine zC Bd30 rfl (zbP (M := M) (x16.1,x16.2) s10 a4 hO.fut c0) ?_;rintro _ c6 ⟨rfl,a1⟩;obtain ⟨h0,a4,a3,hC,hO⟩ := xt5 a1 h0 a4 a3 hC hO;refine ai rfl (zb (c_sr (mi rfl (za _ (zA rfl rfl) (zb ?_)))));rcases zm hs with ⟨a5,hs⟩ | ⟨a5,hs⟩
  ·refine zl (cb a5) (c_sr (ai rfl (zb (wp_ret ?_))));cases hs;exact ⟨_,fr_m 27 rfl,hC⟩
  refine zk (cb a5) (wp_skip (zh (mi rfl (za _ (yad rfl rfl) (ai rfl (zb ?_))))));cases hs;exact ⟨_,zF 27 ⟨rfl,rfl,congrArg (Value.int .i64) hw,trivial⟩,hC,hO,h0⟩
 ·exact ⟨_,fr_m 27 rfl,hC,hO,h0⟩
 cases o14 with
 | nx _ => trivial
 | rt r_ =>
  have hs := zr hs;intro c1 a6 hK;cases hs;exact hK
 | br s10 =>
  have hs := zq hs;rintro c1 a0 ⟨σ,rfl,hC,hO,h0⟩;refine c_sr (mi rfl (ai rfl (zb (wp_ret ?_))));cases hs;exact ⟨_,fr_m 27 rfl,hC⟩

theorem Fa24x1 : ∀ (a : Addr) (w : World),(Instr.fieldAt 24 (.pointer (some a)) 1).run Tryz.prog w = .ok (.pointer (some (a.add 1))) w := fun _ _ => by kernel_rfl

theorem Ag22 : AggT Tryz.prog 22 false := fun _ => by kernel_rfl

theorem Sz22 : SzT Tryz.prog 22 1 := ⟨_,rfl,rfl⟩

theorem Bd15 : zK Tryz.prog 15 := zP Tryz.func15 (by kernel_rfl) rfl

def uh (M : Nat → Prop) (w0 : World) (r : Int) (a : Act) (w : World) : Prop :=
  ∃ σ,a = fr 12 (ovl σ [(4,(iv r))]) ∧ Chg [] w0 w
def yf (a_ : Int × (List (Int × (List Int)))) (left : Int) : Option (Int) :=
  (XU a_.2 left).bind fun r4 =>
  (bif (decide (r4 < 0)) then some (-1) else some r4)
theorem VX (a_ : tA) (left : Int) (h0 : rp.val M w (sv pa0 pn0 pc0) a_.2 []) (hM : Hm w M) {r : Int} (hs : yf a_ left = some r) :
    Gives Tryz.prog 6 [(.agg #[(iv a_.1),(sv pa0 pn0 pc0)]),(iv left)] w (fun v w' => v = (iv r) ∧ Chg [] w w') := by
 refine zx Tryz.func6 rfl Tryz.ntmps6 (nl rfl) ?_;obtain ⟨hO,hC⟩ := st0 hM;unfold yf at hs;refine wp_k (K := (uh M w r)) (by rintro _ _ ⟨σ,rfl,hrest⟩; exact Zd Tryz.results6 (zH rfl) ⟨rfl,hrest⟩) (c_sr ?_);obtain ⟨a6,a4,a7,a5,a2,a0⟩ := zg w [(iv a_.1),(sv pa0 pn0 pc0)] 24;refine za (w' := a6) (pq a4 0) (Zx rfl (by rw [a7,a5]; kernel_rfl)) ?_;obtain ⟨h0,hC⟩ := xt2 a2 h0 hC;have hO := hO.new1 a2 a5 a0.lt;refine ai rfl (zb (c_sr (za (pq a4 1) (zj rfl Fa24x1) (za _ (ld rfl Ag22 Sz22 a0 rfl) (mi rfl ?_)))));obtain ⟨r4,a8,hs⟩ := bq hs;refine zC Bd15 rfl (zaW (M := M) a_.2 left h0 hO.fut a8) ?_;rintro _ b0 ⟨rfl,a1⟩;obtain ⟨h0,a0,hC,hO⟩ := xt4 a1 h0 a0 hC hO;refine ai rfl (zb ?_);have hO := hO.drop;refine ze (c_sr (mi rfl (za _ (zA rfl rfl) (zb ?_))));rcases zm hs with ⟨a3,hs⟩ | ⟨a3,hs⟩
 ·refine zl (cb a3) (c_sr (ai rfl (zb (wp_ret ?_))));cases hs;exact ⟨_,fr_m 12 rfl,hC⟩
 refine zk (cb a3) (wp_skip (c_sr (mi rfl (ai rfl (zb (wp_ret ?_))))));cases hs;exact ⟨_,fr_m 12 rfl,hC⟩

theorem Rw48 : RowT Tryz.prog 48 3 1 [(.int .i64 0)] := ⟨Tryz.underlying48,⟨_,_,rfl,rfl,rfl,rfl,by decide⟩,rfl,by decide⟩

theorem Sz3 : SzT Tryz.prog 3 1 := ⟨_,rfl,rfl⟩

theorem Ag3 : AggT Tryz.prog 3 false := fun _ => by kernel_rfl

def vu (M : Nat → Prop) (w0 : World) (r : (List Int)) (a : Act) (w : World) : Prop :=
  ∃ σ ra0 rn0 rc0 rf0,a = fr 22 (ovl σ [(2,(sv ra0 rn0 rc0))]) ∧ Chg [] w0 w ∧ (RT.os 3 ri).val M w (sv ra0 rn0 rc0) r rf0 ∧ Own (Nw w0 []) (fun _ => True) w (rf0 ++ [])
def xa (a_ : List Int) : Option ((List Int)) :=
  (mks (a_.length : Int) (0 : Int)).bind fun y3 =>
  (forC (S := (List Int)) (R := (List Int)) (fun k18 s16 =>
  (idx a_ k18).bind fun x24 =>
  (idx s16 k18).bind fun x26 =>
  some (.nx (List.set s16 (Int.toNat k18) x24))) 0 (a_.length : Int) y3).bind fun o20 => after o20 (fun r_ => some r_) (fun s16 =>
  some s16)
theorem zam (a_ : List Int) (h0 : rl.val M w (sv pa0 pn0 pc0) a_ []) (hM : Hm w M) {r : (List Int)} (hs : xa a_ = some r) :
    Gives Tryz.prog 71 [(sv pa0 pn0 pc0)] w (fun v w' => ∃ ra0 rn0 rc0 rf0,v = (sv ra0 rn0 rc0) ∧ Chg [] w w' ∧ (RT.os 3 ri).val M w' (sv ra0 rn0 rc0) r rf0 ∧ Own (Nw w []) (fun _ => True) w' (rf0 ++ [])) := by
 refine zx Tryz.func71 rfl Tryz.ntmps71 (nl rfl) ?_;obtain ⟨hO,hC⟩ := st0 hM;unfold xa at hs;refine wp_k (K := (vu M w r)) (by rintro _ _ ⟨σ,ra0,rn0,rc0,rf0,rfl,hrest⟩; exact Zd Tryz.results71 (zH rfl) ⟨ra0,rn0,rc0,rf0,rfl,hrest⟩) (c_sr (ax rfl (zb (c_sr (ms rfl (za _ (zt Sl48 (zB h0) rfl) ?_))))));obtain ⟨y3,b5,hs⟩ := bq hs;obtain ⟨a1,a2,a3,b6,b7,b8,a7,b9,a8⟩ := Wb (M := M) (w := w) (r := ri) Rw48 b5 (fun _ _ => ⟨rfl,rfl⟩);refine za (w' := b6) (sv a1 a2 a3) (Xf rfl rfl b8) ?_;obtain ⟨h0,hC⟩ := xt2 a7 h0 hC;have hO := hO.new a7 b9 (zu a8) a8.fpl;refine ax rfl (zb (ze (c_sr (ai rfl (zb ?_)))));obtain ⟨o20,c0,hs⟩ := bq hs;refine wp_block (zU (id := 0) (a_.length : Int) (I := fun k18 s16 a a0 => ∃ σ a4,a = fr 22 (ovl σ [(0,(sv pa0 pn0 pc0)),(3,(sv a1 a2 a3)),(4,(iv k18))]) ∧ Chg [] w a0 ∧ Own (Nw w []) M a0 (a4 ++ []) ∧ rl.val M a0 (sv pa0 pn0 pc0) a_ [] ∧ (RT.os 3 ri).val M a0 (sv a1 a2 a3) s16 a4) (J := fun s16 a a0 => ∃ σ a6,a = fr 22 (ovl σ [(3,(sv a1 a2 a3))]) ∧ Chg [] w a0 ∧ Own (Nw w []) M a0 (a6 ++ []) ∧ rl.val M a0 (sv pa0 pn0 pc0) a_ [] ∧ (RT.os 3 ri).val M a0 (sv a1 a2 a3) s16 a6) (K := (vu M w)) ?_ ?_ 0 y3 o20 _ _ ?_ c0 ?_)
 ·rintro k18 s16 a a0 ⟨σ,a4,rfl,hC,hO,h0,a5⟩ hlt;refine ze (c_sr (mi rfl (ms rfl (za _ (zt Sl48 (zB h0) rfl) (za _ (zA rfl rfl) (zb (zk (df hlt) (wp_exit ?_))))))));exact ⟨rfl,_,a4,fr_m 22 rfl,hC,hO,h0,a5⟩
 ·rintro k18 s16 o20 a a0 ⟨σ,a4,rfl,hC,hO,h0,a5⟩ hlt hw hs;refine ze (c_sr (mi rfl (ms rfl (za _ (zt Sl48 (zB h0) rfl) (za _ (zA rfl rfl) (zb (zl (dt hlt) (wp_skip (ze (wp_block (zh (ms rfl (mi rfl (ms rfl (mi rfl ?_)))))))))))))));obtain ⟨x24,c1,hs⟩ := bq hs;obtain ⟨c2,c3,c4,c5⟩ := zI Sl48 Sz3 h0 c1;refine za _ (ip c4 rfl rfl) (za (iv x24) (zo rfl ((zp Ag3 Sz3 c5) _ (Chg.refl _ _))) ?_);obtain ⟨x26,c6,hs⟩ := bq hs;obtain ⟨b1,d5,b2,c7,c8,d6,d7⟩ := ZI Sl48 Sz3 a5 c6;refine za _ (ip c8 rfl rfl) ?_;obtain ⟨c9,d0,d1,a9,d2,b0⟩ := YI (P := Tryz.prog) (c' := [(iv x24)]) b2 a5 c7 (fun g hg => hO.inM g (zw a5 g (by simpa using hg))) ⟨rfl,rfl⟩ List.nodup_nil (fun _ h => nomatch h) (fun _ h => .inl h);have b3 : ∀ q ∈ [b1],q ∈ a4 := fun q hq => zw a5 q (by rw [b2]; exact hq)
  refine zS (w' := c9) (zL rfl rfl (d1 _ _ rfl Sz3)) ?_;have h0 := h0.mt a9 hO b3;have hC := hC.st a9 hO b3;have hO := hO.grow a9 (fun q hq => .inl ((d2 q hq).resolve_right (fun h => nomatch h))) (zu b0) b0.fpl;refine zb (zh (mi rfl (za _ (yad rfl rfl) (ai rfl (zb ?_)))));cases hs;exact ⟨_,d0,zF 22 ⟨rfl,rfl,congrArg (Value.int .i64) hw,trivial⟩,hC,hO,h0,b0⟩
 ·exact ⟨_,b7,fr_m 22 rfl,hC,hO,h0,a8⟩
 cases o20 with
 | nx _ => trivial
 | rt r_ =>
  have hs := zr hs;intro d3 b4 hK;cases hs;exact hK
 | br s16 =>
  have hs := zq hs;rintro d3 a0 ⟨σ,a6,rfl,hC,hO,h0,d4⟩;refine c_sr (ms rfl (ax rfl (zb (wp_ret ?_))));cases hs;exact ⟨_,a1,a2,a3,a6,fr_m 22 rfl,hC,d4,hO.top⟩

theorem Ag50 : AggT Tryz.prog 50 true := fun _ => by kernel_rfl

theorem Sz50 : SzT Tryz.prog 50 2 := ⟨_,rfl,rfl⟩

theorem Fa55x0 : ∀ (a : Addr) (w : World),(Instr.fieldAt 55 (.pointer (some a)) 0).run Tryz.prog w = .ok (.pointer (some (a.add 0))) w := fun _ _ => by kernel_rfl

theorem yW : ∀ (a : Addr) (w : World),(Instr.fieldAt 50 (.pointer (some a)) 0).run Tryz.prog w = .ok (.pointer (some (a.add 0))) w := fun _ _ => by kernel_rfl

theorem Bd71 : zK Tryz.prog 71 := zP Tryz.func71 (by kernel_rfl) rfl

theorem YD : ∀ (a : Addr) (w : World),(Instr.fieldAt 50 (.pointer (some a)) 1).run Tryz.prog w = .ok (.pointer (some (a.add 1))) w := fun _ _ => by kernel_rfl

def zcC (M : Nat → Prop) (w0 : World) (r : (Int × (List Int))) (a : Act) (w : World) : Prop :=
  ∃ σ rg2 ra0 rn0 rc0 rf0,a = fr 12 (ovl σ [(2,(pq rg2 0))]) ∧ BoxV w rg2 50 [(iv r.1),(sv ra0 rn0 rc0)] ∧ Chg [] w0 w ∧ (RT.os 3 ri).val M w (sv ra0 rn0 rc0) r.2 rf0 ∧ Own (Nw w0 []) (fun _ => True) w (rf0 ++ [])
def Xb (a_ : Int × (List Int)) : Option ((Int × (List Int))) :=
  (xa a_.2).bind fun r7 =>
  some (a_.1,r7)
theorem zbX (a_ : Int × (List Int)) (h0 : rl.val M w (sv pa0 pn0 pc0) a_.2 []) (hM : Hm w M) {r : (Int × (List Int))} (hs : Xb a_ = some r) :
    Gives Tryz.prog 39 [(.agg #[(iv a_.1),(sv pa0 pn0 pc0)])] w (fun v w' => ∃ ra0 rn0 rc0 rf0,v = (.agg #[(iv r.1),(sv ra0 rn0 rc0)]) ∧ Chg [] w w' ∧ (RT.os 3 ri).val M w' (sv ra0 rn0 rc0) r.2 rf0 ∧ Own (Nw w []) (fun _ => True) w' (rf0 ++ [])) := by
 refine zx Tryz.func39 rfl Tryz.ntmps39 (nl rfl) ?_;obtain ⟨hO,hC⟩ := st0 hM;unfold Xb at hs;refine wp_k (K := (zcC M w r)) (by rintro _ _ ⟨σ,rg2,ra0,rn0,rc0,rf0,rfl,hbrg2,hrest⟩; exact Zd Tryz.results39 (xu rfl (Zn Ag50 Sz50 hbrg2 [] _ [] rfl rfl (fun h => nomatch h))) ⟨ra0,rn0,rc0,rf0,rfl,hrest⟩) (c_sr ?_);obtain ⟨b9,b3,c9,c0,b7,a0⟩ := zg w [(iv a_.1),(sv pa0 pn0 pc0)] 55;refine za (w' := b9) (pq b3 0) (Zx rfl (by rw [c9,c0]; kernel_rfl)) ?_;obtain ⟨h0,hC⟩ := xt2 b7 h0 hC;have hO := hO.new1 b7 c0 a0.lt;obtain ⟨c1,b4,d0,c2,b5,a1⟩ := zg b9 [(iv 0),(sv none 0 0)] 50;refine za (w' := c1) (pq b4 0) (Zy (by rw [d0,c2]; kernel_rfl)) ?_;obtain ⟨h0,a0,hC⟩ := xt3 b5 h0 a0 hC;have hO := hO.new1 b5 c2 a1.lt;refine zb (c_sr ?_);obtain ⟨d1,a5,d2,c3,a8,c4⟩ := zg c1 [(iv 0),(sv none 0 0)] 50;refine za (w' := d1) (pq a5 0) (Zy (by rw [d2,c3]; kernel_rfl)) ?_;obtain ⟨h0,a0,a1,hC⟩ := xt4 a8 h0 a0 a1 hC;have hO := hO.new1 a8 c3 c4.lt;refine zb (c_sr (za (pq b3 0) (zj rfl Fa55x0) (za _ (ld rfl Ag3 Sz3 a0 rfl) (za (pq a5 0) (zj rfl yW) ?_))));obtain ⟨c5,d3,a9,b0⟩ := zM (P := Tryz.prog) c4 [] [(iv 0)] [(sv none 0 0)] [(iv a_.1)] rfl rfl (oc rfl);refine zS (w' := c5) (zL rfl rfl (d3 _ _ rfl Sz3)) ?_;have h0 := h0.mt a9 hO zf;have a0 := a0.ap a9 hO zf (zd mS);have a1 := a1.ap a9 hO zf mS;have hC := hC.st a9 hO zf;have hO := hO.ext a9;have b0 : BoxV c5 a5 50 [(iv a_.1),(sv none 0 0)] := b0;refine zb (c_sr (za (pq b3 1) (zj rfl Fa55x1) (za _ (ld rfl Ag48 Sz48 a0 rfl) ?_)));obtain ⟨r7,d4,hs⟩ := bq hs;refine zC Bd71 rfl (zam (M := M) a_.2 h0 hO.fut d4) ?_;rintro _ d9 ⟨a2,a3,a4,c6,rfl,a6,b1,d5⟩;obtain ⟨h0,a0,a1,b0,hC⟩ := xt5 a6 h0 a0 a1 b0 hC;have hO := Own.join0 hO a6 d5;have hO := hO.perm (R := c6 ++ ([a5] ++ ([b4] ++ ([b3] ++ [])))) (by simp);refine za (pq a5 1) (zj rfl YD) ?_;obtain ⟨c7,d6,a7,b2⟩ := zM (P := Tryz.prog) b0 [(iv a_.1)] [(sv none 0 0)] [] [(sv a2 a3 a4)] rfl rfl (oc rfl);refine zS (w' := c7) (zL rfl rfl (d6 _ _ rfl Sz48)) ?_;have hO := hO.fr1;have h0 := h0.mt a7 hO zf;have a0 := a0.ap a7 hO zf (zd (zd mS));have a1 := a1.ap a7 hO zf (zd mS);have b1 := b1.ma a7 hO zf (fun _ e => (zn (e)));have hC := hC.st a7 hO zf;have hO := hO.ext a7;have b2 : BoxV c7 a5 50 [(iv a_.1),(sv a2 a3 a4)] := b2;refine zb ?_;have hO := hO.fr3.drop;refine c_sr (za _ (ldw rfl Ag50 b2 Sz50) ?_);obtain ⟨c8,d7,b6,b8⟩ := zM (P := Tryz.prog) a1 [] [(iv 0),(sv none 0 0)] [] [(iv a_.1),(sv a2 a3 a4)] rfl rfl (oc rfl);refine zS (w' := c8) (zL rfl rfl (d7 _ _ rfl Sz50)) ?_;have hO := hO.fr2;have b2 := b2.ap b6 hO zf mS;have b1 := b1.ma b6 hO zf (fun _ e => (zd (zn (e))));have hC := hC.st b6 hO zf;have hO := hO.ext b6;have b8 : BoxV c8 b4 50 [(iv a_.1),(sv a2 a3 a4)] := b8;refine zb ?_;have hO := hO.fr1.drop;refine wp_ret ?_;cases hs;have hO := hO.drop;exact ⟨_,b4,a2,a3,a4,c6,fr_m 12 rfl,b8,hC,b1,hO.top⟩

theorem Rw28 : RowT Tryz.prog 28 50 2 [(.int .i64 0),(.slice none 0 0)] := ⟨Tryz.underlying28,⟨_,_,rfl,rfl,rfl,rfl,by decide⟩,rfl,by decide⟩

theorem Bd39 : zK Tryz.prog 39 := zP Tryz.func39 (by kernel_rfl) rfl

theorem Sl28 : SlT Tryz.prog 28 50 := Tryz.underlying28

def Vn (M : Nat → Prop) (w0 : World) (r : (List (Int × (List Int)))) (a : Act) (w : World) : Prop :=
  ∃ σ ra0 rn0 rc0 rf0,a = fr 23 (ovl σ [(2,(sv ra0 rn0 rc0))]) ∧ Chg [] w0 w ∧ (RT.os 50 (RT.pr ri (RT.os 3 ri))).val M w (sv ra0 rn0 rc0) r rf0 ∧ Own (Nw w0 []) (fun _ => True) w (rf0 ++ [])
def XT (a_ : List (Int × (List Int))) : Option ((List (Int × (List Int)))) :=
  (mks (a_.length : Int) ((0,[]) : Int × (List Int))).bind fun y3 =>
  (forC (S := (List (Int × (List Int)))) (R := (List (Int × (List Int)))) (fun k28 s26 =>
  (idx a_ k28).bind fun x34 =>
  (Xb (x34.1,x34.2)).bind fun r39 =>
  (idx s26 k28).bind fun x41 =>
  some (.nx (List.set s26 (Int.toNat k28) (r39.1,r39.2)))) 0 (a_.length : Int) y3).bind fun o30 => after o30 (fun r_ => some r_) (fun s26 =>
  some s26)
theorem zaY (a_ : List (Int × (List Int))) (h0 : rp.val M w (sv pa0 pn0 pc0) a_ []) (hM : Hm w M) {r : (List (Int × (List Int)))} (hs : XT a_ = some r) :
    Gives Tryz.prog 19 [(sv pa0 pn0 pc0)] w (fun v w' => ∃ ra0 rn0 rc0 rf0,v = (sv ra0 rn0 rc0) ∧ Chg [] w w' ∧ (RT.os 50 (RT.pr ri (RT.os 3 ri))).val M w' (sv ra0 rn0 rc0) r rf0 ∧ Own (Nw w []) (fun _ => True) w' (rf0 ++ [])) := by
 refine zx Tryz.func19 rfl Tryz.ntmps19 (nl rfl) ?_;obtain ⟨hO,hC⟩ := st0 hM;unfold XT at hs;refine wp_k (K := (Vn M w r)) (by rintro _ _ ⟨σ,ra0,rn0,rc0,rf0,rfl,hrest⟩; exact Zd Tryz.results19 (zH rfl) ⟨ra0,rn0,rc0,rf0,rfl,hrest⟩) (c_sr (ax rfl (zb (c_sr (ms rfl (za _ (zt Sl22 (zB h0) rfl) ?_))))));obtain ⟨y3,b9,hs⟩ := bq hs;obtain ⟨a1,a2,a3,c0,c1,c2,b0,c3,b1⟩ := Wb (M := M) (w := w) (r := (RT.pr ri (RT.os 3 ri))) Rw28 b9 (fun _ _ => ⟨_,_,[],[],rfl,rfl,⟨rfl,rfl⟩,(Zc xW)⟩);refine za (w' := c0) (sv a1 a2 a3) (Xf rfl rfl c2) ?_;obtain ⟨h0,hC⟩ := xt2 b0 h0 hC;have hO := hO.new b0 c3 (zu b1) b1.fpl;refine ax rfl (zb (ze (c_sr (ai rfl (zb ?_)))));obtain ⟨o30,c4,hs⟩ := bq hs;refine wp_block (zU (id := 0) (a_.length : Int) (I := fun k28 s26 a a0 => ∃ σ a4,a = fr 23 (ovl σ [(0,(sv pa0 pn0 pc0)),(3,(sv a1 a2 a3)),(4,(iv k28))]) ∧ Chg [] w a0 ∧ Own (Nw w []) M a0 (a4 ++ []) ∧ rp.val M a0 (sv pa0 pn0 pc0) a_ [] ∧ (RT.os 50 (RT.pr ri (RT.os 3 ri))).val M a0 (sv a1 a2 a3) s26 a4) (J := fun s26 a a0 => ∃ σ a8,a = fr 23 (ovl σ [(3,(sv a1 a2 a3))]) ∧ Chg [] w a0 ∧ Own (Nw w []) M a0 (a8 ++ []) ∧ rp.val M a0 (sv pa0 pn0 pc0) a_ [] ∧ (RT.os 50 (RT.pr ri (RT.os 3 ri))).val M a0 (sv a1 a2 a3) s26 a8) (K := (Vn M w)) ?_ ?_ 0 y3 o30 _ _ ?_ c4 ?_)
 ·rintro k28 s26 a a0 ⟨σ,a4,rfl,hC,hO,h0,a5⟩ hlt;refine ze (c_sr (mi rfl (ms rfl (za _ (zt Sl22 (zB h0) rfl) (za _ (zA rfl rfl) (zb (zk (df hlt) (wp_exit ?_))))))));exact ⟨rfl,_,a4,fr_m 23 rfl,hC,hO,h0,a5⟩
 ·rintro k28 s26 o30 a a0 ⟨σ,a4,rfl,hC,hO,h0,a5⟩ hlt hw hs;refine ze (c_sr (mi rfl (ms rfl (za _ (zt Sl22 (zB h0) rfl) (za _ (zA rfl rfl) (zb (zl (dt hlt) (wp_skip (ze (wp_block (zh (ms rfl (mi rfl (ms rfl (mi rfl ?_)))))))))))))));obtain ⟨x34,c5,hs⟩ := bq hs;obtain ⟨c6,c7,c8,b2⟩ := zI Sl22 Sz55 h0 c5;refine za _ (ip c8 rfl rfl) ?_;obtain ⟨f4,c9,d0⟩ := zT Ag55 Sz55 (by intro h; cases h) b2;obtain ⟨f5,rfl,d1⟩ := d0;obtain ⟨f6,f7,rfl,d2,d3⟩ := YG d1;obtain rfl := xy d2;obtain ⟨d4,d5,d6,rfl,a7⟩ := xb d3;refine za (.agg #[(iv x34.1),(sv d4 d5 d6)]) (zo rfl (c9 _ (Chg.refl _ _))) ?_;obtain ⟨r39,d7,hs⟩ := bq hs;refine zC Bd39 rfl (zbX (M := M) (x34.1,x34.2) a7 hO.fut d7) ?_;rintro _ f8 ⟨d8,d9,e0,b3,rfl,a6,e1,e2⟩;obtain ⟨h0,a5,a7,b2,hC⟩ := xt5 a6 h0 a5 a7 b2 hC;have hO := Own.join0 hO a6 e2;have hO := hO.perm (R := b3 ++ (a4 ++ [])) (by simp);obtain ⟨x41,e3,hs⟩ := bq hs;obtain ⟨b6,f9,b7,e4,e5,e6,e7⟩ := ZI Sl28 Sz50 a5 e3;have g0 := vg (Frz.pr Frz.int (Frz.os Frz.int)) e6 e7;refine za _ (ip e5 rfl rfl) ?_;have hO := hO.fr1;obtain ⟨e8,e9,f0,a9,f1,b4⟩ := YI (P := Tryz.prog) (c' := [(iv r39.1),(sv d8 d9 e0)]) b7 a5 e4 (fun g hg => hO.inM g (zw a5 g (by simpa using hg))) ⟨_,_,_,_,rfl,rfl,⟨rfl,rfl⟩,(Zc e1)⟩ (hO.drop.perm (R := (([] : List Nat) ++ b3) ++ []) (by simp)).nd (fun g hg hq => hO.apart g hq (by simp only [List.mem_append,List.not_mem_nil,false_or,or_false] at hg ⊢; simp [hg])) (fun _ h => .inl h);have b5 : ∀ q ∈ [b6],q ∈ a4 := fun q hq => zw a5 q (by rw [b7]; exact hq)
  refine zS (w' := e8) (zL rfl rfl (f0 _ _ rfl Sz50)) ?_;have hO := hO.fr1.fr1;have h0 := h0.mt a9 hO b5;have a7 := a7.mt a9 hO b5;have hC := hC.st a9 hO b5;have hO := (hO.perm (R := a4 ++ ((([] : List Nat) ++ b3) ++ [])) (by simp)).eat a9 (fun q hq => (f1 q hq).elim .inl (fun h => .inr (.inl h))) (zu b4) b4.fpl;refine zb (zh (mi rfl (za _ (yad rfl rfl) (ai rfl (zb ?_)))));cases hs;exact ⟨_,e9,zF 23 ⟨rfl,rfl,congrArg (Value.int .i64) hw,trivial⟩,hC,hO,h0,b4⟩
 ·exact ⟨_,c1,fr_m 23 rfl,hC,hO,h0,b1⟩
 cases o30 with
 | nx _ => trivial
 | rt r_ =>
  have hs := zr hs;intro f2 b8 hK;cases hs;exact hK
 | br s26 =>
  have hs := zq hs;rintro f2 a0 ⟨σ,a8,rfl,hC,hO,h0,f3⟩;refine c_sr (ms rfl (ax rfl (zb (wp_ret ?_))));cases hs;exact ⟨_,a1,a2,a3,a8,fr_m 23 rfl,hC,f3,hO.top⟩

theorem Ag30 : AggT Tryz.prog 30 true := fun _ => by kernel_rfl

theorem Sz30 : SzT Tryz.prog 30 2 := ⟨_,rfl,rfl⟩

theorem Fa24x0 : ∀ (a : Addr) (w : World),(Instr.fieldAt 24 (.pointer (some a)) 0).run Tryz.prog w = .ok (.pointer (some (a.add 0))) w := fun _ _ => by kernel_rfl

theorem ZV : ∀ (a : Addr) (w : World),(Instr.fieldAt 30 (.pointer (some a)) 0).run Tryz.prog w = .ok (.pointer (some (a.add 0))) w := fun _ _ => by kernel_rfl

theorem Bd19 : zK Tryz.prog 19 := zP Tryz.func19 (by kernel_rfl) rfl

theorem ZH : ∀ (a : Addr) (w : World),(Instr.fieldAt 30 (.pointer (some a)) 1).run Tryz.prog w = .ok (.pointer (some (a.add 1))) w := fun _ _ => by kernel_rfl

theorem Sz28 : SzT Tryz.prog 28 1 := ⟨_,rfl,rfl⟩

def VU (M : Nat → Prop) (w0 : World) (r : tA) (a : Act) (w : World) : Prop :=
  ∃ σ rg2 ra0 rn0 rc0 rf0,a = fr 12 (ovl σ [(2,(pq rg2 0))]) ∧ BoxV w rg2 30 [(iv r.1),(sv ra0 rn0 rc0)] ∧ Chg [] w0 w ∧ (RT.os 50 (RT.pr ri (RT.os 3 ri))).val M w (sv ra0 rn0 rc0) r.2 rf0 ∧ Own (Nw w0 []) (fun _ => True) w (rf0 ++ [])
def yh (a_ : Int × (List (Int × (List Int)))) : Option ((Int × (List (Int × (List Int))))) :=
  (XT a_.2).bind fun r7 =>
  some (a_.1,r7)
theorem Xx (a_ : tA) (h0 : rp.val M w (sv pa0 pn0 pc0) a_.2 []) (hM : Hm w M) {r : tA} (hs : yh a_ = some r) :
    Gives Tryz.prog 8 [(.agg #[(iv a_.1),(sv pa0 pn0 pc0)])] w (fun v w' => ∃ ra0 rn0 rc0 rf0,v = (.agg #[(iv r.1),(sv ra0 rn0 rc0)]) ∧ Chg [] w w' ∧ (RT.os 50 (RT.pr ri (RT.os 3 ri))).val M w' (sv ra0 rn0 rc0) r.2 rf0 ∧ Own (Nw w []) (fun _ => True) w' (rf0 ++ [])) := by
 refine zx Tryz.func8 rfl Tryz.ntmps8 (nl rfl) ?_;obtain ⟨hO,hC⟩ := st0 hM;unfold yh at hs;refine wp_k (K := (VU M w r)) (by rintro _ _ ⟨σ,rg2,ra0,rn0,rc0,rf0,rfl,hbrg2,hrest⟩; exact Zd Tryz.results8 (xu rfl (Zn Ag30 Sz30 hbrg2 [] _ [] rfl rfl (fun h => nomatch h))) ⟨ra0,rn0,rc0,rf0,rfl,hrest⟩) (c_sr ?_);obtain ⟨b9,b3,c9,c0,b7,a0⟩ := zg w [(iv a_.1),(sv pa0 pn0 pc0)] 24;refine za (w' := b9) (pq b3 0) (Zx rfl (by rw [c9,c0]; kernel_rfl)) ?_;obtain ⟨h0,hC⟩ := xt2 b7 h0 hC;have hO := hO.new1 b7 c0 a0.lt;obtain ⟨c1,b4,d0,c2,b5,a1⟩ := zg b9 [(iv 0),(sv none 0 0)] 30;refine za (w' := c1) (pq b4 0) (Zy (by rw [d0,c2]; kernel_rfl)) ?_;obtain ⟨h0,a0,hC⟩ := xt3 b5 h0 a0 hC;have hO := hO.new1 b5 c2 a1.lt;refine zb (c_sr ?_);obtain ⟨d1,a5,d2,c3,a8,c4⟩ := zg c1 [(iv 0),(sv none 0 0)] 30;refine za (w' := d1) (pq a5 0) (Zy (by rw [d2,c3]; kernel_rfl)) ?_;obtain ⟨h0,a0,a1,hC⟩ := xt4 a8 h0 a0 a1 hC;have hO := hO.new1 a8 c3 c4.lt;refine zb (c_sr (za (pq b3 0) (zj rfl Fa24x0) (za _ (ld rfl Ag3 Sz3 a0 rfl) (za (pq a5 0) (zj rfl ZV) ?_))));obtain ⟨c5,d3,a9,b0⟩ := zM (P := Tryz.prog) c4 [] [(iv 0)] [(sv none 0 0)] [(iv a_.1)] rfl rfl (oc rfl);refine zS (w' := c5) (zL rfl rfl (d3 _ _ rfl Sz3)) ?_;have h0 := h0.mt a9 hO zf;have a0 := a0.ap a9 hO zf (zd mS);have a1 := a1.ap a9 hO zf mS;have hC := hC.st a9 hO zf;have hO := hO.ext a9;have b0 : BoxV c5 a5 30 [(iv a_.1),(sv none 0 0)] := b0;refine zb (c_sr (za (pq b3 1) (zj rfl Fa24x1) (za _ (ld rfl Ag22 Sz22 a0 rfl) ?_)));obtain ⟨r7,d4,hs⟩ := bq hs;refine zC Bd19 rfl (zaY (M := M) a_.2 h0 hO.fut d4) ?_;rintro _ d9 ⟨a2,a3,a4,c6,rfl,a6,b1,d5⟩;obtain ⟨h0,a0,a1,b0,hC⟩ := xt5 a6 h0 a0 a1 b0 hC;have hO := Own.join0 hO a6 d5;have hO := hO.perm (R := c6 ++ ([a5] ++ ([b4] ++ ([b3] ++ [])))) (by simp);refine za (pq a5 1) (zj rfl ZH) ?_;obtain ⟨c7,d6,a7,b2⟩ := zM (P := Tryz.prog) b0 [(iv a_.1)] [(sv none 0 0)] [] [(sv a2 a3 a4)] rfl rfl (oc rfl);refine zS (w' := c7) (zL rfl rfl (d6 _ _ rfl Sz28)) ?_;have hO := hO.fr1;have h0 := h0.mt a7 hO zf;have a0 := a0.ap a7 hO zf (zd (zd mS));have a1 := a1.ap a7 hO zf (zd mS);have b1 := b1.ma a7 hO zf (fun _ e => (zn (e)));have hC := hC.st a7 hO zf;have hO := hO.ext a7;have b2 : BoxV c7 a5 30 [(iv a_.1),(sv a2 a3 a4)] := b2;refine zb ?_;have hO := hO.fr3.drop;refine c_sr (za _ (ldw rfl Ag30 b2 Sz30) ?_);obtain ⟨c8,d7,b6,b8⟩ := zM (P := Tryz.prog) a1 [] [(iv 0),(sv none 0 0)] [] [(iv a_.1),(sv a2 a3 a4)] rfl rfl (oc rfl);refine zS (w' := c8) (zL rfl rfl (d7 _ _ rfl Sz30)) ?_;have hO := hO.fr2;have b2 := b2.ap b6 hO zf mS;have b1 := b1.ma b6 hO zf (fun _ e => (zd (zn (e))));have hC := hC.st b6 hO zf;have hO := hO.ext b6;have b8 : BoxV c8 b4 30 [(iv a_.1),(sv a2 a3 a4)] := b8;refine zb ?_;have hO := hO.fr1.drop;refine wp_ret ?_;cases hs;have hO := hO.drop;exact ⟨_,b4,a2,a3,a4,c6,fr_m 12 rfl,b8,hC,b1,hO.top⟩

def zcy (M : Nat → Prop) (w0 : World) (r : Bool) (a : Act) (w : World) : Prop :=
  ∃ σ,a = fr 15 (ovl σ [(6,(.bool r))]) ∧ Chg [] w0 w
def xw (x_ : Int) (a_ : Int) (b : Int) : Option (Bool) :=
  (bif (decide (a_ ≤ x_)) then some (decide (x_ ≤ b)) else some false)
theorem WY {M : Nat → Prop} {w : World}  (x_ : Int) (a_ : Int) (b : Int) (hM : Hm w M) {r : Bool} (hs : xw x_ a_ b = some r) :
    Gives Tryz.prog 62 [(iv x_),(iv a_),(iv b)] w (fun v w' => v = (.bool r) ∧ Chg [] w w') := by
 refine zx Tryz.func62 rfl Tryz.ntmps62 (nl rfl) ?_;obtain ⟨hO,hC⟩ := st0 hM;unfold xw at hs;refine wp_k (K := (zcy M w r)) (by rintro _ _ ⟨σ,rfl,hrest⟩; exact Zd Tryz.results62 (zH rfl) ⟨rfl,hrest⟩) (c_sr (ab rfl (zb (c_sr (mi rfl (mi rfl (za _ (WU rfl rfl) (mb rfl ?_))))))));rcases zm hs with ⟨a0,hs⟩ | ⟨a0,hs⟩
 ·refine py 10 (iv x_) (cb a0) (zD rfl) (py 10 (iv b) (cb a0) (zD rfl) (py 10 _ (cb a0) (vv rfl rfl) (za _ (ptb (cb a0) rfl) (ab rfl (zb (wp_ret ?_))))));cases hs;exact ⟨_,fr_m 15 rfl,hC⟩
 refine pn 10 (cb a0) (pn 10 (cb a0) (pn 10 (cb a0) (za _ (pfb (cb a0) rfl) (ab rfl (zb (wp_ret ?_))))));cases hs;exact ⟨_,fr_m 15 rfl,hC⟩

def Vz (M : Nat → Prop) (w0 : World) (r : Int) (a : Act) (w : World) : Prop :=
  ∃ σ,a = fr 14 (ovl σ [(4,(iv r))]) ∧ Chg [] w0 w
def YA (n : Int) (k : Int) : Option (Int) :=
  (iter (S := Int × Int) (R := Int) (fun s2 =>
  (bif (decide (0 < s2.1)) then some (.nx (w64 (s2.1 - 1),w64 (s2.2 * n))) else some (.br (s2.1,s2.2)))) FU (k,1)).bind fun o6 => after o6 (fun r_ => some r_) (fun s2 =>
  some s2.2)
theorem Ws {M : Nat → Prop} {w : World}  (n : Int) (k : Int) (hM : Hm w M) {r : Int} (hs : YA n k = some r) :
    Gives Tryz.prog 67 [(iv n),(iv k)] w (fun v w' => v = (iv r) ∧ Chg [] w w') := by
 refine zx Tryz.func67 rfl Tryz.ntmps67 (nl rfl) ?_;obtain ⟨hO,hC⟩ := st0 hM;unfold YA at hs;refine wp_k (K := (Vz M w r)) (by rintro _ _ ⟨σ,rfl,hrest⟩; exact Zd Tryz.results67 (zH rfl) ⟨rfl,hrest⟩) (c_sr (ai rfl (zb (c_sr (ai rfl (zb (ze ?_)))))));obtain ⟨o6,a3,hs⟩ := bq hs;refine wp_block (ZG (id := 0) (I := fun s2 a a0 => ∃ σ,a = fr 14 (ovl σ [(0,(iv n)),(1,(iv s2.1)),(5,(iv s2.2))]) ∧ Chg [] w a0 ∧ Own (Nw w []) M a0 []) (J := fun s2 a a0 => ∃ σ,a = fr 14 (ovl σ [(5,(iv s2.2))]) ∧ Chg [] w a0 ∧ Own (Nw w []) M a0 []) (K := (Vz M w)) ?_ FU (k,1) o6 _ _ ?_ a3 ?_)
 ·rintro s2 o6 a a0 ⟨σ,rfl,hC,hO⟩ hs;refine ze (c_sr (mi rfl (za _ (xg rfl rfl) (zb ?_))));rcases zm hs with ⟨a1,hs⟩ | ⟨a1,hs⟩
  ·refine zl (cb a1) (wp_skip (ze (wp_block (zh (mi rfl (mi rfl (za _ (ymu rfl rfl) (ai rfl (zb (zh (mi rfl (za _ (ysu rfl rfl) (ai rfl (zb ?_))))))))))))));cases hs;exact ⟨_,fr_m 14 rfl,hC,hO⟩
  refine zk (cb a1) (wp_exit ?_);cases hs;exact ⟨rfl,_,fr_m 14 rfl,hC,hO⟩
 ·exact ⟨_,fr_m 14 rfl,hC,hO⟩
 cases o6 with
 | nx _ => trivial
 | rt r_ =>
  have hs := zr hs;intro a4 a2 hK;cases hs;exact hK
 | br s2 =>
  have hs := zq hs;rintro a4 a0 ⟨σ,rfl,hC,hO⟩;refine c_sr (mi rfl (ai rfl (zb (wp_ret ?_))));cases hs;exact ⟨_,fr_m 14 rfl,hC⟩

theorem Mx : Tryz.prog.follows .mixedOrders = true := by kernel_rfl

theorem Bd62 : zK Tryz.prog 62 := zP Tryz.func62 (by kernel_rfl) rfl

theorem Bd67 : zK Tryz.prog 67 := zP Tryz.func67 (by kernel_rfl) rfl

def ux (M : Nat → Prop) (w0 : World) (r : Bool) (a : Act) (w : World) : Prop :=
  ∃ σ,a = fr 36 (ovl σ [(4,(.bool r))]) ∧ Chg [] w0 w
def xv (n : Int) (op : Int × (List Int)) : Option (Bool) :=
  ((xw op.1 0 3).bind fun r9 =>
  (bif (!r9) then some true else (YA n op.1).bind fun r12 =>
  some ((op.2.length : Int) != r12))).bind fun s3 =>
  (bif s3 then some false else (forC (S := Unit) (R := Bool) (fun k21 s19 =>
  (idx op.2 k21).bind fun x25 =>
  (xw x25 0 (w64 (n - 1))).bind fun r28 =>
  (bif (!r28) then some (.rt false) else some (.nx ()))) 0 (op.2.length : Int) ()).bind fun o23 => after o23 (fun r_ => some r_) (fun s19 =>
  some true))
theorem zcd (n : Int) (op : Int × (List Int)) (h0 : rl.val M w (sv pa0 pn0 pc0) op.2 []) (hM : Hm w M) {r : Bool} (hs : xv n op = some r) :
    Gives Tryz.prog 63 [(iv n),(.agg #[(iv op.1),(sv pa0 pn0 pc0)])] w (fun v w' => v = (.bool r) ∧ Chg [] w w') := by
 refine zx Tryz.func63 rfl Tryz.ntmps63 (nl rfl) ?_;obtain ⟨hO,hC⟩ := st0 hM;unfold xv at hs;refine wp_k (K := (ux M w r)) (by rintro _ _ ⟨σ,rfl,hrest⟩; exact Zd Tryz.results63 (zH rfl) ⟨rfl,hrest⟩) (c_sr ?_);obtain ⟨a7,a2,b9,b4,b0,a0⟩ := zg w [(iv op.1),(sv pa0 pn0 pc0)] 50;refine za (w' := a7) (pq a2 0) (Zx rfl (by rw [b9,b4]; kernel_rfl)) ?_;obtain ⟨h0,hC⟩ := xt2 b0 h0 hC;have hO := hO.new1 b0 b4 a0.lt;refine ab rfl (zb (ze (ze ?_)));obtain ⟨s3,c0,hs⟩ := bq hs;refine yI (I := fun a b5 => ∃ σ,a = fr 36 (ovl σ [(0,(iv n)),(3,(pq a2 0)),(4,(.bool false)),(19,(.bool s3))]) ∧ Chg [] a7 b5) ?_ ?_
 ·replace hs := c0;have hMid := Chg.refl [] a7;refine Za [] Mx rfl ?_;have a6 := Chg.drew a7;generalize World.drew a7 = c1 at a6 ⊢;obtain ⟨h0,a0,hMid,hC,hO⟩ := xt5 a6 h0 a0 hMid hC hO;have hS := Chg.refl [] c1;have b6 := a0;refine xq 0 (pq a2 0) rfl (zj rfl yW) hS (xl 1 rfl (ldx rfl Ag3 Sz3 a0 rfl) hS (zN (i := 2) (by kernel_rfl) ?_));obtain ⟨r9,c2,hs⟩ := bq hs;refine zV (b := false) rfl Bd62 rfl (WY (M := M) op.1 0 3  hO.fut c2) rfl (by rintro _ _ _ ⟨rfl,a4⟩; exact hS.ext a4) ?_;rintro _ d0 ⟨rfl,a4⟩;obtain ⟨h0,a0,hMid,hC,hO,hS⟩ := xt6 a4 h0 a0 hMid hC hO hS;refine xq 3 _ rfl (yc rfl) hS (xmb 4 rfl rfl hS ?_);rcases zm hs with ⟨a1,hs⟩ | ⟨a1,hs⟩
  ·refine xpn 5 10 rfl (cb a1) hS (xpn 6 10 rfl (cb a1) hS (xpn 7 10 rfl (cb a1) hS (xpn 8 10 rfl (cb a1) hS (xpn 9 10 rfl (cb a1) hS (xpn 10 10 rfl (cb a1) hS (xpn 11 10 rfl (cb a1) hS (xpn 12 10 rfl (cb a1) hS (xq 13 _ rfl (ptb (cb a1) rfl) hS (xe ?_)))))))));clear hS;cases hs;exact ⟨_,fr_m 36 rfl,hMid⟩
  refine xpy 5 10 (pq a2 1) rfl (cb a1) (zj rfl YD) hS (x_ly 6 (sv pa0 pn0 pc0) rfl (by kernel_rfl) (tg := 10) (by kernel_rfl) (cb a1) (fun w' hw' => zo rfl ((Zn Ag48 Sz48 b6 [(iv op.1)] [(sv pa0 pn0 pc0)] [] rfl rfl (fun _ => rfl)) w' hw')) hS (xpy 7 10 _ rfl (cb a1) (zt Sl48 (zB h0) rfl) hS (xpy 8 10 (iv n) rfl (cb a1) (zD rfl) hS (xpy 9 10 (pq a2 0) rfl (cb a1) (zj rfl yW) hS (x_ly 10 (iv op.1) rfl (by kernel_rfl) (tg := 10) (by kernel_rfl) (cb a1) (fun w' hw' => zo rfl ((Zn Ag3 Sz3 b6 [] [(iv op.1)] [(sv pa0 pn0 pc0)] rfl rfl (fun _ => rfl)) w' hw')) hS (zN (i := 11) (by kernel_rfl) ?_))))));obtain ⟨r12,c3,hs⟩ := bq hs;refine WK (b := false) rfl (tg := 10) (by kernel_rfl) (cb a1) Bd67 rfl (Ws (M := M) n op.1  hO.fut c3) rfl (by rintro _ _ _ ⟨rfl,a5⟩; exact hS.ext a5) ?_;rintro _ d1 ⟨rfl,a5⟩;obtain ⟨h0,a0,hMid,hC,hO,hS⟩ := xt6 a5 h0 a0 hMid hC hO hS;refine xpy 12 10 (.bool ((op.2.length : Int) != r12)) rfl (cb a1) (Xp rfl rfl) hS (xq 13 _ rfl (pfb (cb a1) rfl) hS (xe ?_));clear hS;cases hs;exact ⟨_,fr_m 36 rfl,hMid⟩
 rintro b7 b5 ⟨σ,rfl,a9⟩;obtain ⟨h0,a0,hC,hO⟩ := xt4 a9 h0 a0 hC hO;rcases zm hs with ⟨b1,hs⟩ | ⟨b1,hs⟩
 ·refine zl (cb b1) (c_sr (ab rfl (zb (wp_ret ?_))));cases hs;exact ⟨_,fr_m 36 rfl,hC⟩
 refine zk (cb b1) (wp_skip (ze (c_sr (ai rfl (zb ?_)))));obtain ⟨o23,c4,hs⟩ := bq hs;refine wp_block (zU (id := 0) (op.2.length : Int) (I := fun k21 s19 a a3 => ∃ σ,a = fr 36 (ovl σ [(0,(iv n)),(3,(pq a2 0)),(5,(iv k21))]) ∧ Chg [] w a3 ∧ Own (Nw w []) M a3 ([a2] ++ []) ∧ rl.val M a3 (sv pa0 pn0 pc0) op.2 [] ∧ BoxV a3 a2 50 [(iv op.1),(sv pa0 pn0 pc0)]) (J := fun s19 a a3 => ∃ σ,a = fr 36 (ovl σ []) ∧ Chg [] w a3 ∧ Own (Nw w []) M a3 ([a2] ++ []) ∧ rl.val M a3 (sv pa0 pn0 pc0) op.2 [] ∧ BoxV a3 a2 50 [(iv op.1),(sv pa0 pn0 pc0)]) (K := (ux M w)) ?_ ?_ 0 () o23 _ _ ?_ c4 ?_)
 ·rintro k21 s19 a a3 ⟨σ,rfl,hC,hO,h0,a0⟩ hlt;refine ze (c_sr (mi rfl (za (pq a2 1) (zj rfl YD) (za _ (ld rfl Ag48 Sz48 a0 rfl) (za _ (zt Sl48 (zB h0) rfl) (za _ (zA rfl rfl) (zb (zk (df hlt) (wp_exit ?_)))))))));exact ⟨rfl,_,zF 36 trivial,hC,hO,h0,a0⟩
 ·rintro k21 s19 o23 a a3 ⟨σ,rfl,hC,hO,h0,a0⟩ hlt hw hs;refine ze (c_sr (mi rfl (za (pq a2 1) (zj rfl YD) (za _ (ld rfl Ag48 Sz48 a0 rfl) (za _ (zt Sl48 (zB h0) rfl) (za _ (zA rfl rfl) (zb (zl (dt hlt) (wp_skip (ze (wp_block (c_sr (za (pq a2 1) (zj rfl YD) (za _ (ld rfl Ag48 Sz48 a0 rfl) (mi rfl ?_)))))))))))))));obtain ⟨x25,c5,hs⟩ := bq hs;obtain ⟨c6,c7,c8,b2⟩ := zI Sl48 Sz3 h0 c5;refine za _ (ip c8 rfl rfl) (za (iv x25) (zo rfl ((zp Ag3 Sz3 b2) _ (Chg.refl _ _))) (mi rfl (za _ (ysu rfl rfl) ?_)));obtain ⟨r28,c9,hs⟩ := bq hs;refine zC Bd62 rfl (WY (M := M) x25 0 (w64 (n - 1))  hO.fut c9) ?_;rintro _ d2 ⟨rfl,a8⟩;obtain ⟨h0,a0,b2,hC,hO⟩ := xt5 a8 h0 a0 b2 hC hO;refine za _ (yc rfl) (zb ?_);rcases zm hs with ⟨b3,hs⟩ | ⟨b3,hs⟩
  ·refine zl (cb b3) (c_sr (ab rfl (zb (wp_ret ?_))));cases hs;exact ⟨_,fr_m 36 rfl,hC⟩
  refine zk (cb b3) (wp_skip (zh (mi rfl (za _ (yad rfl rfl) (ai rfl (zb ?_))))));cases hs;exact ⟨_,zF 36 ⟨rfl,rfl,congrArg (Value.int .i64) hw,trivial⟩,hC,hO,h0,a0⟩
 ·exact ⟨_,fr_m 36 rfl,hC,hO,h0,a0⟩
 cases o23 with
 | nx _ => trivial
 | rt r_ =>
  have hs := zr hs;intro b7 b8 hK;cases hs;exact hK
 | br s19 =>
  have hs := zq hs;rintro b7 a3 ⟨σ,rfl,hC,hO,h0,a0⟩;refine c_sr (ab rfl (zb (wp_ret ?_)));cases hs;exact ⟨_,fr_m 36 rfl,hC⟩

theorem Ag28 : AggT Tryz.prog 28 false := fun _ => by kernel_rfl

theorem Bd63 : zK Tryz.prog 63 := zP Tryz.func63 (by kernel_rfl) rfl

def vx (M : Nat → Prop) (w0 : World) (r : Bool) (a : Act) (w : World) : Prop :=
  ∃ σ,a = fr 30 (ovl σ [(2,(.bool r))]) ∧ Chg [] w0 w
def YE (a_ : Int × (List (Int × (List Int)))) : Option (Bool) :=
  ((xw a_.1 1 8).bind fun r7 =>
  (bif (!r7) then some true else some (decide (4 < (a_.2.length : Int))))).bind fun s3 =>
  (bif s3 then some false else (forC (S := Unit) (R := Bool) (fun k20 s18 =>
  (idx a_.2 k20).bind fun x25 =>
  (xv a_.1 (x25.1,x25.2)).bind fun r30 =>
  (bif (!r30) then some (.rt false) else some (.nx ()))) 0 (a_.2.length : Int) ()).bind fun o22 => after o22 (fun r_ => some r_) (fun s18 =>
  some true))
theorem zap (a_ : tA) (h0 : rp.val M w (sv pa0 pn0 pc0) a_.2 []) (hM : Hm w M) {r : Bool} (hs : YE a_ = some r) :
    Gives Tryz.prog 31 [(.agg #[(iv a_.1),(sv pa0 pn0 pc0)])] w (fun v w' => v = (.bool r) ∧ Chg [] w w') := by
 refine zx Tryz.func31 rfl Tryz.ntmps31 (nl rfl) ?_;obtain ⟨hO,hC⟩ := st0 hM;unfold YE at hs;refine wp_k (K := (vx M w r)) (by rintro _ _ ⟨σ,rfl,hrest⟩; exact Zd Tryz.results31 (zH rfl) ⟨rfl,hrest⟩) (c_sr ?_);obtain ⟨a8,a2,b8,b4,a9,a0⟩ := zg w [(iv a_.1),(sv pa0 pn0 pc0)] 30;refine za (w' := a8) (pq a2 0) (Zx rfl (by rw [b8,b4]; kernel_rfl)) ?_;obtain ⟨h0,hC⟩ := xt2 a9 h0 hC;have hO := hO.new1 a9 b4 a0.lt;refine ab rfl (zb (ze (ze ?_)));obtain ⟨s3,b9,hs⟩ := bq hs;refine yI (I := fun a b5 => ∃ σ,a = fr 30 (ovl σ [(1,(pq a2 0)),(2,(.bool false)),(13,(.bool s3))]) ∧ Chg [] a8 b5) ?_ ?_
 ·replace hs := b9;have hMid := Chg.refl [] a8;refine zh (za (pq a2 0) (zj rfl ZV) (za _ (ld rfl Ag3 Sz3 a0 rfl) ?_));obtain ⟨r7,c0,hs⟩ := bq hs;refine zC Bd62 rfl (WY (M := M) a_.1 1 8  hO.fut c0) ?_;rintro _ d6 ⟨rfl,a5⟩;obtain ⟨h0,a0,hMid,hC,hO⟩ := xt5 a5 h0 a0 hMid hC hO;refine za _ (yc rfl) (mb rfl ?_);rcases zm hs with ⟨a3,hs⟩ | ⟨a3,hs⟩
  ·refine pn 8 (cb a3) (pn 8 (cb a3) (pn 8 (cb a3) (pn 8 (cb a3) (za _ (ptb (cb a3) rfl) (zb ?_)))));cases hs;exact ⟨_,fr_m 30 rfl,hMid⟩
  refine py 8 (pq a2 1) (cb a3) (zj rfl ZH) (py 8 _ (cb a3) (ld rfl Ag28 Sz28 a0 rfl) (py 8 _ (cb a3) (zt Sl28 (zB h0) rfl) (py 8 _ (cb a3) (xg rfl rfl) (za _ (pfb (cb a3) rfl) (zb ?_)))));cases hs;exact ⟨_,fr_m 30 rfl,hMid⟩
 rintro b6 b5 ⟨σ,rfl,a7⟩;obtain ⟨h0,a0,hC,hO⟩ := xt4 a7 h0 a0 hC hO;rcases zm hs with ⟨b0,hs⟩ | ⟨b0,hs⟩
 ·refine zl (cb b0) (c_sr (ab rfl (zb (wp_ret ?_))));cases hs;exact ⟨_,fr_m 30 rfl,hC⟩
 refine zk (cb b0) (wp_skip (ze (c_sr (ai rfl (zb ?_)))));obtain ⟨o22,c1,hs⟩ := bq hs;refine wp_block (zU (id := 0) (a_.2.length : Int) (I := fun k20 s18 a a1 => ∃ σ,a = fr 30 (ovl σ [(1,(pq a2 0)),(3,(iv k20))]) ∧ Chg [] w a1 ∧ Own (Nw w []) M a1 ([a2] ++ []) ∧ rp.val M a1 (sv pa0 pn0 pc0) a_.2 [] ∧ BoxV a1 a2 30 [(iv a_.1),(sv pa0 pn0 pc0)]) (J := fun s18 a a1 => ∃ σ,a = fr 30 (ovl σ []) ∧ Chg [] w a1 ∧ Own (Nw w []) M a1 ([a2] ++ []) ∧ rp.val M a1 (sv pa0 pn0 pc0) a_.2 [] ∧ BoxV a1 a2 30 [(iv a_.1),(sv pa0 pn0 pc0)]) (K := (vx M w)) ?_ ?_ 0 () o22 _ _ ?_ c1 ?_)
 ·rintro k20 s18 a a1 ⟨σ,rfl,hC,hO,h0,a0⟩ hlt;refine ze (c_sr (mi rfl (za (pq a2 1) (zj rfl ZH) (za _ (ld rfl Ag28 Sz28 a0 rfl) (za _ (zt Sl28 (zB h0) rfl) (za _ (zA rfl rfl) (zb (zk (df hlt) (wp_exit ?_)))))))));exact ⟨rfl,_,zF 30 trivial,hC,hO,h0,a0⟩
 ·rintro k20 s18 o22 a a1 ⟨σ,rfl,hC,hO,h0,a0⟩ hlt hw hs;refine ze (c_sr (mi rfl (za (pq a2 1) (zj rfl ZH) (za _ (ld rfl Ag28 Sz28 a0 rfl) (za _ (zt Sl28 (zB h0) rfl) (za _ (zA rfl rfl) (zb (zl (dt hlt) (wp_skip (ze (wp_block (ze (Za [] Mx rfl ?_)))))))))))));have a6 := Chg.drew a1;generalize World.drew a1 = c2 at a6 ⊢;obtain ⟨h0,a0,hC,hO⟩ := xt4 a6 h0 a0 hC hO;have hS := Chg.refl [] c2;refine xq 0 (pq a2 0) rfl (zj rfl ZV) hS (xl 1 rfl (ldx rfl Ag3 Sz3 a0 rfl) hS (xq 2 (pq a2 1) rfl (zj rfl ZH) hS (xl 3 rfl (ldx rfl Ag28 Sz28 a0 rfl) hS (xmi 4 rfl rfl hS ?_))));obtain ⟨x25,c3,hs⟩ := bq hs;obtain ⟨c4,c5,c6,b1⟩ := zI Sl28 Sz50 h0 c3;refine xq 5 _ rfl (ip c6 rfl rfl) hS ?_;obtain ⟨d7,c7,c8⟩ := zT Ag50 Sz50 (by intro h; cases h) b1;obtain ⟨d8,rfl,c9⟩ := c8;obtain ⟨d9,e0,rfl,d0,d1⟩ := YG c9;obtain rfl := xy d0;obtain ⟨d2,d3,d4,rfl,b2⟩ := xb d1;refine x_l 6 (.agg #[(iv x25.1),(sv d2 d3 d4)]) rfl (by kernel_rfl) (fun w' hw' => zo rfl (c7 w' hw')) hS (zN (i := 7) (by kernel_rfl) ?_);obtain ⟨r30,d5,hs⟩ := bq hs;refine zV (b := false) rfl Bd63 rfl (zcd (M := M) a_.1 (x25.1,x25.2) b2 hO.fut d5) rfl (by rintro _ _ _ ⟨rfl,a4⟩; exact hS.ext a4) ?_;rintro _ e1 ⟨rfl,a4⟩;obtain ⟨h0,a0,b2,b1,hC,hO,hS⟩ := xt7 a4 h0 a0 b2 b1 hC hO hS;refine xq 8 _ rfl (yc rfl) hS (xe ?_);clear hS;rcases zm hs with ⟨b3,hs⟩ | ⟨b3,hs⟩
  ·refine zl (cb b3) (c_sr (ab rfl (zb (wp_ret ?_))));cases hs;exact ⟨_,fr_m 30 rfl,hC⟩
  refine zk (cb b3) (wp_skip (zh (mi rfl (za _ (yad rfl rfl) (ai rfl (zb ?_))))));cases hs;exact ⟨_,zF 30 ⟨rfl,congrArg (Value.int .i64) hw,trivial⟩,hC,hO,h0,a0⟩
 ·exact ⟨_,fr_m 30 rfl,hC,hO,h0,a0⟩
 cases o22 with
 | nx _ => trivial
 | rt r_ =>
  have hs := zr hs;intro b6 b7 hK;cases hs;exact hK
 | br s18 =>
  have hs := zq hs;rintro b6 a1 ⟨σ,rfl,hC,hO,h0,a0⟩;refine c_sr (ab rfl (zb (wp_ret ?_)));cases hs;exact ⟨_,fr_m 30 rfl,hC⟩

def zaq (M : Nat → Prop) (w0 : World) (r : Int) (a : Act) (w : World) : Prop :=
  ∃ σ,a = fr 10 (ovl σ [(4,(iv r))]) ∧ Chg [] w0 w
def xN (a_ : Int) (b : Int) : Option (Int) :=
  (bif (decide (b < a_)) then some a_ else some b)
theorem zaf {M : Nat → Prop} {w : World}  (a_ : Int) (b : Int) (hM : Hm w M) {r : Int} (hs : xN a_ b = some r) :
    Gives Tryz.prog 114 [(iv a_),(iv b)] w (fun v w' => v = (iv r) ∧ Chg [] w w') := by
 refine zx Tryz.func114 rfl Tryz.ntmps114 (nl rfl) ?_;obtain ⟨hO,hC⟩ := st0 hM;unfold xN at hs;refine wp_k (K := (zaq M w r)) (by rintro _ _ ⟨σ,rfl,hrest⟩; exact Zd Tryz.results114 (zH rfl) ⟨rfl,hrest⟩) (c_sr (ai rfl (zb (ze (c_sr (mi rfl (mi rfl (za _ (xg rfl rfl) (zb ?_)))))))));rcases zm hs with ⟨a0,hs⟩ | ⟨a0,hs⟩
 ·refine zl (cb a0) (c_sr (mi rfl (ai rfl (zb (wp_ret ?_)))));cases hs;exact ⟨_,fr_m 10 rfl,hC⟩
 refine zk (cb a0) (wp_skip (c_sr (mi rfl (ai rfl (zb (wp_ret ?_))))));cases hs;exact ⟨_,fr_m 10 rfl,hC⟩

theorem Bd114 : zK Tryz.prog 114 := zP Tryz.func114 (by kernel_rfl) rfl

def vL (M : Nat → Prop) (w0 : World) (r : Int) (a : Act) (w : World) : Prop :=
  ∃ σ,a = fr 25 (ovl σ [(2,(iv r))]) ∧ Chg [] w0 w
def xM (a_ : Int × (List (Int × (List Int)))) : Option (Int) :=
  (forC (S := Int) (R := Int) (fun k10 s8 =>
  (idx a_.2 k10).bind fun x14 =>
  (xN s8 x14.1).bind fun r18 =>
  some (.nx r18)) 0 (a_.2.length : Int) 0).bind fun o12 => after o12 (fun r_ => some r_) (fun s8 =>
  (bif (s8 == 3) then some 40 else (bif (s8 == 2) then some 200 else some 300)))
theorem zan (a_ : tA) (h0 : rp.val M w (sv pa0 pn0 pc0) a_.2 []) (hM : Hm w M) {r : Int} (hs : xM a_ = some r) :
    Gives Tryz.prog 86 [(.agg #[(iv a_.1),(sv pa0 pn0 pc0)])] w (fun v w' => v = (iv r) ∧ Chg [] w w') := by
 refine zx Tryz.func86 rfl Tryz.ntmps86 (nl rfl) ?_;obtain ⟨hO,hC⟩ := st0 hM;unfold xM at hs;refine wp_k (K := (vL M w r)) (by rintro _ _ ⟨σ,rfl,hrest⟩; exact Zd Tryz.results86 (zH rfl) ⟨rfl,hrest⟩) (c_sr ?_);obtain ⟨b3,a2,b4,a9,a4,a0⟩ := zg w [(iv a_.1),(sv pa0 pn0 pc0)] 30;refine za (w' := b3) (pq a2 0) (Zx rfl (by rw [b4,a9]; kernel_rfl)) ?_;obtain ⟨h0,hC⟩ := xt2 a4 h0 hC;have hO := hO.new1 a4 a9 a0.lt;refine ai rfl (zb (c_sr (ai rfl (zb (ze (c_sr (ai rfl (zb ?_))))))));obtain ⟨o12,b5,hs⟩ := bq hs;refine wp_block (zU (id := 0) (a_.2.length : Int) (I := fun k10 s8 a a1 => ∃ σ,a = fr 25 (ovl σ [(1,(pq a2 0)),(3,(iv s8)),(4,(iv k10))]) ∧ Chg [] w a1 ∧ Own (Nw w []) M a1 ([a2] ++ []) ∧ rp.val M a1 (sv pa0 pn0 pc0) a_.2 [] ∧ BoxV a1 a2 30 [(iv a_.1),(sv pa0 pn0 pc0)]) (J := fun s8 a a1 => ∃ σ,a = fr 25 (ovl σ [(3,(iv s8))]) ∧ Chg [] w a1 ∧ Own (Nw w []) M a1 ([a2] ++ []) ∧ rp.val M a1 (sv pa0 pn0 pc0) a_.2 [] ∧ BoxV a1 a2 30 [(iv a_.1),(sv pa0 pn0 pc0)]) (K := (vL M w)) ?_ ?_ 0 0 o12 _ _ ?_ b5 ?_)
 ·rintro k10 s8 a a1 ⟨σ,rfl,hC,hO,h0,a0⟩ hlt;refine ze (c_sr (mi rfl (za (pq a2 1) (zj rfl ZH) (za _ (ld rfl Ag28 Sz28 a0 rfl) (za _ (zt Sl28 (zB h0) rfl) (za _ (zA rfl rfl) (zb (zk (df hlt) (wp_exit ?_)))))))));exact ⟨rfl,_,fr_m 25 rfl,hC,hO,h0,a0⟩
 ·rintro k10 s8 o12 a a1 ⟨σ,rfl,hC,hO,h0,a0⟩ hlt hw hs;refine ze (c_sr (mi rfl (za (pq a2 1) (zj rfl ZH) (za _ (ld rfl Ag28 Sz28 a0 rfl) (za _ (zt Sl28 (zB h0) rfl) (za _ (zA rfl rfl) (zb (zl (dt hlt) (wp_skip (ze (wp_block (zh (mi rfl (za (pq a2 1) (zj rfl ZH) (za _ (ld rfl Ag28 Sz28 a0 rfl) (mi rfl ?_))))))))))))))));obtain ⟨x14,b6,hs⟩ := bq hs;obtain ⟨b0,b1,b7,a5⟩ := zI Sl28 Sz50 h0 b6;refine za _ (ip b7 rfl rfl) ?_;obtain ⟨a6,_⟩ := XH a5;refine za (.pointer (some ⟨b0,b1 + 0,none⟩)) (zj rfl yW) (za (iv x14.1) (zo rfl ((zp Ag3 Sz3 a6) _ (Chg.refl _ _))) ?_);obtain ⟨r18,b8,hs⟩ := bq hs;refine zC Bd114 rfl (zaf (M := M) s8 x14.1  hO.fut b8) ?_;rintro _ c0 ⟨rfl,a3⟩;obtain ⟨h0,a0,a5,a6,hC,hO⟩ := xt6 a3 h0 a0 a5 a6 hC hO;refine ai rfl (zb (zh (mi rfl (za _ (yad rfl rfl) (ai rfl (zb ?_))))));cases hs;exact ⟨_,zF 25 ⟨rfl,rfl,congrArg (Value.int .i64) hw,trivial⟩,hC,hO,h0,a0⟩
 ·exact ⟨_,fr_m 25 rfl,hC,hO,h0,a0⟩
 cases o12 with
 | nx _ => trivial
 | rt r_ =>
  have hs := zr hs;intro b9 b2 hK;cases hs;exact hK
 | br s8 =>
  have hs := zq hs;rintro b9 a1 ⟨σ,rfl,hC,hO,h0,a0⟩;refine ze (c_sr (mi rfl (zb (wp_block (c_sr (za (.bool (s8 == 3)) (xn rfl rfl) (ab rfl (zb ?_))))))));rcases zm hs with ⟨a7,hs⟩ | ⟨a7,hs⟩
  ·refine zl (cb a7) (c_sr (ai rfl (zb (wp_ret ?_))));cases hs;exact ⟨_,fr_m 25 rfl,hC⟩
  refine zk (cb a7) (c_sr (za (.bool (s8 == 2)) (xn rfl rfl) (ab rfl (zb ?_))));rcases zm hs with ⟨a8,hs⟩ | ⟨a8,hs⟩
  ·refine zl (cb a8) (c_sr (ai rfl (zb (wp_ret ?_))));cases hs;exact ⟨_,fr_m 25 rfl,hC⟩
  refine zk (cb a8) (wp_skip (c_sr (ai rfl (zb (wp_ret ?_)))));cases hs;exact ⟨_,fr_m 25 rfl,hC⟩

def zbe (M : Nat → Prop) (w0 : World) (r : (List Int)) (a : Act) (w : World) : Prop :=
  ∃ σ ra0 rn0 rc0 rf0,a = fr 6 (ovl σ [(2,(sv ra0 rn0 rc0))]) ∧ Chg [] w0 w ∧ (RT.os 3 ri).val M w (sv ra0 rn0 rc0) r rf0 ∧ Own (Nw w0 []) (fun _ => True) w (rf0 ++ [])
def yR (l : List Int) : Option ((List Int)) :=
  (app ([]) l).bind fun y5 =>
  some y5
theorem Xj (l : List Int) (h0 : rl.val M w (sv pa0 pn0 pc0) l []) (hM : Hm w M) {r : (List Int)} (hs : yR l = some r) :
    Gives Tryz.prog 85 [(sv pa0 pn0 pc0)] w (fun v w' => ∃ ra0 rn0 rc0 rf0,v = (sv ra0 rn0 rc0) ∧ Chg [] w w' ∧ (RT.os 3 ri).val M w' (sv ra0 rn0 rc0) r rf0 ∧ Own (Nw w []) (fun _ => True) w' (rf0 ++ [])) := by
 refine zx Tryz.func85 rfl Tryz.ntmps85 (nl rfl) ?_;obtain ⟨hO,hC⟩ := st0 hM;unfold yR at hs;refine wp_k (K := (zbe M w r)) (by rintro _ _ ⟨σ,ra0,rn0,rc0,rf0,rfl,hrest⟩; exact Zd Tryz.results85 (zH rfl) ⟨ra0,rn0,rc0,rf0,rfl,hrest⟩) (c_sr (ax rfl (zb (c_sr ?_))));obtain ⟨a8,a1,b2,a9,a2,b0⟩ := zg w [] 3;refine za (w' := a8) (sv (some ⟨a1,0,none⟩) 0 0) (zy rfl (by rw [b2,a9]; kernel_rfl)) ?_;obtain ⟨h0,hC⟩ := xt2 a2 h0 hC;have hO := hO.new1 a2 a9 b0.lt;have a0 := os0 (r := ri) (M := M) b0;refine ms rfl ?_;obtain ⟨y5,b3,hs⟩ := bq hs;obtain ⟨a3,a4,a5,b4,b5,b6,a6,b7,a7⟩ := yO Rw48 b3 a0 h0 hO.inM;have b1 := zw a0;refine za (w' := b4) (sv a3 a4 a5) (zJ rfl rfl (b6 _)) ?_;have h0 := h0.mt a6 hO b1;have hC := hC.st a6 hO b1;have hO := hO.grow a6 b7 (zu a7) a7.fpl;refine ax rfl (zb (wp_ret ?_));cases hs;exact ⟨_,a3,a4,a5,b5,fr_m 6 rfl,hC,a7,hO.top⟩

theorem Sl56 : SlT Tryz.prog 56 48 := Tryz.underlying56

def ws (M : Nat → Prop) (w0 : World) (r : (List Int)) (a : Act) (w : World) : Prop :=
  ∃ σ ra0 rn0 rc0 rf0,a = fr 50 (ovl σ [(8,(sv ra0 rn0 rc0))]) ∧ Chg [] w0 w ∧ (RT.os 3 ri).val M w (sv ra0 rn0 rc0) r rf0 ∧ Own (Nw w0 []) (fun _ => True) w (rf0 ++ [])
def ZA (a_ : Int × (List (Int × (List Int)))) (op : Int) (tuples : List (List Int)) (k : Int) : Option ((List Int)) :=
  (forC (S := (List Int)) (R := (List Int)) (fun k42 s40 =>
  (forC (S := Int) (R := (List Int)) (fun k59 s57 =>
  (idx tuples k59).bind fun x64 =>
  (idx x64 k42).bind fun x68 =>
  some (.nx (w64 ((w64 (s57 * a_.1)) + x68)))) 0 (tuples.length : Int) 0).bind fun o61 => after o61 (fun r_ => some (.rt r_)) (fun s57 =>
  (idx a_.2 op).bind fun x70 =>
  (idx x70.2 s57).bind fun x75 =>
  (app s40 ([x75])).bind fun y80 =>
  some (.nx y80))) 0 k ([])).bind fun o44 => after o44 (fun r_ => some r_) (fun s40 =>
  some s40)
theorem wd (a_ : tA) (op : Int) (tuples : tM) (k : Int) (h0 : rp.val M w (sv pa0 pn0 pc0) a_.2 []) (h1 : rm.val M w (sv pa1 pn1 pc1) tuples []) (hM : Hm w M) {r : (List Int)} (hs : ZA a_ op tuples k = some r) :
    Gives Tryz.prog 87 [(.agg #[(iv a_.1),(sv pa0 pn0 pc0)]),(iv op),(sv pa1 pn1 pc1),(iv k)] w (fun v w' => ∃ ra0 rn0 rc0 rf0,v = (sv ra0 rn0 rc0) ∧ Chg [] w w' ∧ (RT.os 3 ri).val M w' (sv ra0 rn0 rc0) r rf0 ∧ Own (Nw w []) (fun _ => True) w' (rf0 ++ [])) := by
 refine zx Tryz.func87 rfl Tryz.ntmps87 (nl rfl) ?_;obtain ⟨hO,hC⟩ := st0 hM;unfold ZA at hs;refine wp_k (K := (ws M w r)) (by rintro _ _ ⟨σ,ra0,rn0,rc0,rf0,rfl,hrest⟩; exact Zd Tryz.results87 (zH rfl) ⟨ra0,rn0,rc0,rf0,rfl,hrest⟩) (c_sr ?_);obtain ⟨d2,a3,e3,d3,b9,a0⟩ := zg w [(iv a_.1),(sv pa0 pn0 pc0)] 30;refine za (w' := d2) (pq a3 0) (Zx rfl (by rw [e3,d3]; kernel_rfl)) ?_;obtain ⟨h0,h1,hC⟩ := xt3 b9 h0 h1 hC;have hO := hO.new1 b9 d3 a0.lt;refine ax rfl (zb (c_sr ?_));obtain ⟨d4,b1,e4,d5,b7,d6⟩ := zg d2 [] 3;refine za (w' := d4) (sv (some ⟨b1,0,none⟩) 0 0) (zy rfl (by rw [e4,d5]; kernel_rfl)) ?_;obtain ⟨h0,h1,a0,hC⟩ := xt4 b7 h0 h1 a0 hC;have hO := hO.new1 b7 d5 d6.lt;have c1 := os0 (r := ri) (M := M) d6;refine ax rfl (zb (ze (c_sr (ai rfl (zb ?_)))));obtain ⟨o44,e5,hs⟩ := bq hs;refine wp_block (zU (id := 0) k (I := fun k42 s40 a a2 => ∃ σ a5 a6 a7 a8,a = fr 50 (ovl σ [(1,(iv op)),(2,(sv pa1 pn1 pc1)),(3,(iv k)),(4,(pq a3 0)),(9,(sv a5 a6 a7)),(10,(iv k42))]) ∧ Chg [] w a2 ∧ Own (Nw w []) M a2 (a8 ++ ([a3] ++ [])) ∧ rp.val M a2 (sv pa0 pn0 pc0) a_.2 [] ∧ rm.val M a2 (sv pa1 pn1 pc1) tuples [] ∧ BoxV a2 a3 30 [(iv a_.1),(sv pa0 pn0 pc0)] ∧ (RT.os 3 ri).val M a2 (sv a5 a6 a7) s40 a8) (J := fun s40 a a2 => ∃ σ b2 b3 b4 c0,a = fr 50 (ovl σ [(9,(sv b2 b3 b4))]) ∧ Chg [] w a2 ∧ Own (Nw w []) M a2 (c0 ++ ([a3] ++ [])) ∧ rp.val M a2 (sv pa0 pn0 pc0) a_.2 [] ∧ rm.val M a2 (sv pa1 pn1 pc1) tuples [] ∧ BoxV a2 a3 30 [(iv a_.1),(sv pa0 pn0 pc0)] ∧ (RT.os 3 ri).val M a2 (sv b2 b3 b4) s40 c0) (K := (ws M w)) ?_ ?_ 0 [] o44 _ _ ?_ e5 ?_)
 ·rintro k42 s40 a a2 ⟨σ,a5,a6,a7,a8,rfl,hC,hO,h0,h1,a0,a4⟩ hlt;refine ze (c_sr (mi rfl (mi rfl (za _ (zA rfl rfl) (zb (zk (df hlt) (wp_exit ?_)))))));have hO := hO.fr1.fr1;exact ⟨rfl,_,a5,a6,a7,a8,fr_m 50 rfl,hC,hO,h0,h1,a0,a4⟩
 ·rintro k42 s40 o44 a a2 ⟨σ,a5,a6,a7,a8,rfl,hC,hO,h0,h1,a0,a4⟩ hlt hw hs;refine ze (c_sr (mi rfl (mi rfl (za _ (zA rfl rfl) (zb (zl (dt hlt) (wp_skip (ze (wp_block (c_sr (ai rfl (zb (ze (c_sr (ai rfl (zb ?_))))))))))))))));obtain ⟨o61,e6,hs⟩ := bq hs;refine wp_block (zU (id := 2) (tuples.length : Int) (I := fun k59 s57 a a1 => ∃ σ,a = fr 50 (ovl σ [(1,(iv op)),(2,(sv pa1 pn1 pc1)),(3,(iv k)),(4,(pq a3 0)),(9,(sv a5 a6 a7)),(10,(iv k42)),(11,(iv s57)),(12,(iv k59))]) ∧ Chg [] w a1 ∧ Own (Nw w []) M a1 (a8 ++ ([a3] ++ [])) ∧ rp.val M a1 (sv pa0 pn0 pc0) a_.2 [] ∧ rm.val M a1 (sv pa1 pn1 pc1) tuples [] ∧ BoxV a1 a3 30 [(iv a_.1),(sv pa0 pn0 pc0)] ∧ (RT.os 3 ri).val M a1 (sv a5 a6 a7) s40 a8) (J := fun s57 a a1 => ∃ σ,a = fr 50 (ovl σ [(1,(iv op)),(2,(sv pa1 pn1 pc1)),(3,(iv k)),(4,(pq a3 0)),(9,(sv a5 a6 a7)),(10,(iv k42)),(11,(iv s57))]) ∧ Chg [] w a1 ∧ Own (Nw w []) M a1 (a8 ++ ([a3] ++ [])) ∧ rp.val M a1 (sv pa0 pn0 pc0) a_.2 [] ∧ rm.val M a1 (sv pa1 pn1 pc1) tuples [] ∧ BoxV a1 a3 30 [(iv a_.1),(sv pa0 pn0 pc0)] ∧ (RT.os 3 ri).val M a1 (sv a5 a6 a7) s40 a8) (K := (ws M w)) ?_ ?_ 0 0 o61 _ _ ?_ e6 ?_)
  ·rintro k59 s57 a a1 ⟨σ,rfl,hC,hO,h0,h1,a0,a4⟩ hlt;refine ze (c_sr (mi rfl (ms rfl (za _ (zt Sl56 (zB h1) rfl) (za _ (zA rfl rfl) (zb (zk (df hlt) (wp_exit ?_))))))));have hO := hO.fr1.fr1;exact ⟨rfl,_,fr_m 50 rfl,hC,hO,h0,h1,a0,a4⟩
  ·rintro k59 s57 o61 a a1 ⟨σ,rfl,hC,hO,h0,h1,a0,a4⟩ hlt hw hs;refine ze (c_sr (mi rfl (ms rfl (za _ (zt Sl56 (zB h1) rfl) (za _ (zA rfl rfl) (zb (zl (dt hlt) (wp_skip (ze (wp_block (Za [] Mx rfl ?_)))))))))));have b0 := Chg.drew a1;generalize World.drew a1 = e7 at b0 ⊢;obtain ⟨h0,h1,a0,a4,hC,hO⟩ := xt6 b0 h0 h1 a0 a4 hC hO;have hS := Chg.refl [] e7;refine xmi 0 rfl rfl hS (xq 1 (pq a3 0) rfl (zj rfl ZV) hS (xl 2 rfl (ldx rfl Ag3 Sz3 a0 rfl) hS (xq 3 _ rfl (ymu rfl rfl) hS (xms 4 rfl rfl hS (xmi 5 rfl rfl hS ?_)))));obtain ⟨x64,e8,hs⟩ := bq hs;obtain ⟨e9,f0,f1,f2⟩ := zI Sl56 Sz48 h1 e8;refine xq 6 _ rfl (ip f1 rfl rfl) hS ?_;obtain ⟨i2,f3,d7⟩ := zT Ag48 Sz48 (fun _ => rfl) f2;obtain ⟨f4,f5,f6,rfl⟩ := Zw d7;refine x_l 7 (sv f4 f5 f6) rfl (by kernel_rfl) (fun w' hw' => zo rfl (f3 w' hw')) hS (xmi 8 rfl rfl hS ?_);obtain ⟨x68,f7,hs⟩ := bq hs;obtain ⟨f8,f9,g0,g1⟩ := zI Sl48 Sz3 d7 f7;refine xq 9 _ rfl (ip g0 rfl rfl) hS (x_l 10 (iv x68) rfl (by kernel_rfl) (fun w' hw' => zo rfl ((zp Ag3 Sz3 g1) w' hw')) hS (xq 11 _ rfl (yad rfl rfl) hS (xq 12 (iv (w64 ((w64 (s57 * a_.1)) + x68))) rfl (zG rfl) hS (xe ?_))));clear hS;refine zh (mi rfl (za _ (yad rfl rfl) (ai rfl (zb ?_))));cases hs;have hO := hO.fr1.fr1;exact ⟨_,zF 50 ⟨rfl,rfl,rfl,rfl,rfl,rfl,rfl,congrArg (Value.int .i64) hw,trivial⟩,hC,hO,h0,h1,a0,a4⟩
  ·have hO := hO.fr1.fr1;exact ⟨_,fr_m 50 rfl,hC,hO,h0,h1,a0,a4⟩
  cases o61 with
  | nx _ => trivial
  | rt r_ =>
   have hs := zr hs;intro c2 d1 hK;cases hs;exact hK
  | br s57 =>
   have hs := zq hs;rintro c2 a1 ⟨σ,rfl,hC,hO,h0,h1,a0,a4⟩;refine zh (ms rfl (za (pq a3 1) (zj rfl ZH) (za _ (ld rfl Ag28 Sz28 a0 rfl) (mi rfl ?_))));obtain ⟨x70,g2,hs⟩ := bq hs;obtain ⟨d8,d9,g3,c3⟩ := zI Sl28 Sz50 h0 g2;refine za _ (ip g3 rfl rfl) ?_;obtain ⟨_,g4⟩ := XH c3;refine za (.pointer (some ⟨d8,d9 + 1,none⟩)) (zj rfl YD) ?_;obtain ⟨i3,g5,b5⟩ := zT Ag48 Sz48 (fun _ => rfl) g4;obtain ⟨g6,g7,g8,rfl⟩ := Zw b5;refine za (sv g6 g7 g8) (zo rfl (g5 _ (Chg.refl _ _))) (mi rfl ?_);obtain ⟨x75,g9,hs⟩ := bq hs;obtain ⟨h2,h3,h4,c4⟩ := zI Sl48 Sz3 b5 g9;refine za _ (ip h4 rfl rfl) (za (iv x75) (zo rfl ((zp Ag3 Sz3 c4) _ (Chg.refl _ _))) ?_);obtain ⟨e0,c5,h5,e1,a9,e2⟩ := zg a1 [(iv x75)] 3;refine za (w' := e0) (sv (some ⟨c5,0,none⟩) 1 1) (zy rfl (by rw [h5,e1]; kernel_rfl)) ?_;obtain ⟨h0,h1,a0,a4,b5,c3,c4,hC⟩ := xt8 a9 h0 h1 a0 a4 b5 c3 c4 hC;have hO := hO.new1 a9 e1 e2.lt;have c6 := os1 (M := M) e2;obtain ⟨y80,h6,hs⟩ := bq hs;have hO := hO.fr1;obtain ⟨c7,c8,c9,h7,h8,h9,b6,i0,d0⟩ := Zg Rw48 h6 a4 c6 hO.inM (fun g hg hq => hO.apart g hq (zn hg));have b8 := zw a4;refine za (w' := h7) (sv c7 c8 c9) (zJ rfl rfl (h9 _)) ?_;have hO := hO.fr1.fr1;have h0 := h0.mt b6 hO b8;have h1 := h1.mt b6 hO b8;have a0 := a0.ap b6 hO b8 (zd mS);have b5 := b5.mt b6 hO b8;have hC := hC.st b6 hO b8;have hO := hO.eat b6 i0 (zu d0) d0.fpl;refine ax rfl (zb (zh (mi rfl (za _ (yad rfl rfl) (ai rfl (zb ?_))))));cases hs;have hO := hO.fr1.fr1;exact ⟨_,c7,c8,c9,h8,zF 50 ⟨rfl,rfl,rfl,rfl,rfl,congrArg (Value.int .i64) hw,trivial⟩,hC,hO,h0,h1,a0,d0⟩
 ·have hO := hO.fr1.fr1;exact ⟨_,(some ⟨b1,0,none⟩),0,0,[b1],fr_m 50 rfl,hC,hO,h0,h1,a0,c1⟩
 cases o44 with
 | nx _ => trivial
 | rt r_ =>
  have hs := zr hs;intro c2 d1 hK;cases hs;exact hK
 | br s40 =>
  have hs := zq hs;rintro c2 a2 ⟨σ,b2,b3,b4,c0,rfl,hC,hO,h0,h1,a0,i1⟩;refine c_sr (ms rfl (ax rfl (zb (wp_ret ?_))));cases hs;have hO := hO.fr1.drop;exact ⟨_,b2,b3,b4,c0,fr_m 50 rfl,hC,i1,hO.top⟩

def vE (M : Nat → Prop) (w0 : World) (r : Bool) (a : Act) (w : World) : Prop :=
  ∃ σ,a = fr 30 (ovl σ [(4,(.bool r))]) ∧ Chg [] w0 w
def YB (a_ : List Int) (b : List Int) : Option (Bool) :=
  (forC (S := Unit) (R := Bool) (fun k21 s19 =>
  (idx a_ k21).bind fun x31 =>
  (idx b k21).bind fun x33 =>
  (bif (x31 != x33) then (idx a_ k21).bind fun x37 =>
  (idx b k21).bind fun x39 =>
  some (.rt (decide (x37 < x39))) else some (.nx ()))) 0 (a_.length : Int) ()).bind fun o23 => after o23 (fun r_ => some r_) (fun s19 =>
  some false)
theorem vJ (a_ : List Int) (b : List Int) (h0 : rl.val M w (sv pa0 pn0 pc0) a_ []) (h1 : rl.val M w (sv pa1 pn1 pc1) b []) (hM : Hm w M) {r : Bool} (hs : YB a_ b = some r) :
    Gives Tryz.prog 92 [(sv pa0 pn0 pc0),(sv pa1 pn1 pc1)] w (fun v w' => v = (.bool r) ∧ Chg [] w w') := by
 refine zx Tryz.func92 rfl Tryz.ntmps92 (nl rfl) ?_;obtain ⟨hO,hC⟩ := st0 hM;unfold YB at hs;refine wp_k (K := (vE M w r)) (by rintro _ _ ⟨σ,rfl,hrest⟩; exact Zd Tryz.results92 (zH rfl) ⟨rfl,hrest⟩) (c_sr (ab rfl (zb (ze (c_sr (ai rfl (zb ?_)))))));obtain ⟨o23,a8,hs⟩ := bq hs;refine wp_block (zU (id := 0) (a_.length : Int) (I := fun k21 s19 a a0 => ∃ σ,a = fr 30 (ovl σ [(0,(sv pa0 pn0 pc0)),(1,(sv pa1 pn1 pc1)),(5,(iv k21))]) ∧ Chg [] w a0 ∧ Own (Nw w []) M a0 [] ∧ rl.val M a0 (sv pa0 pn0 pc0) a_ [] ∧ rl.val M a0 (sv pa1 pn1 pc1) b []) (J := fun s19 a a0 => ∃ σ,a = fr 30 (ovl σ []) ∧ Chg [] w a0 ∧ Own (Nw w []) M a0 [] ∧ rl.val M a0 (sv pa0 pn0 pc0) a_ [] ∧ rl.val M a0 (sv pa1 pn1 pc1) b []) (K := (vE M w)) ?_ ?_ 0 () o23 _ _ ?_ a8 ?_)
 ·rintro k21 s19 a a0 ⟨σ,rfl,hC,hO,h0,h1⟩ hlt;refine ze (c_sr (mi rfl (ms rfl (za _ (zt Sl48 (zB h0) rfl) (za _ (zA rfl rfl) (zb (zk (df hlt) (wp_exit ?_))))))));exact ⟨rfl,_,zF 30 trivial,hC,hO,h0,h1⟩
 ·rintro k21 s19 o23 a a0 ⟨σ,rfl,hC,hO,h0,h1⟩ hlt hw hs;refine ze (c_sr (mi rfl (ms rfl (za _ (zt Sl48 (zB h0) rfl) (za _ (zA rfl rfl) (zb (zl (dt hlt) (wp_skip (ze (wp_block (ze (Za [] Mx rfl ?_))))))))))));have a2 := Chg.drew a0;generalize World.drew a0 = a3 at a2 ⊢;obtain ⟨h0,h1,hC,hO⟩ := xt4 a2 h0 h1 hC hO;have hS := Chg.refl [] a3;refine xms 0 rfl rfl hS (xmi 1 rfl rfl hS ?_);obtain ⟨x31,a9,hs⟩ := bq hs;obtain ⟨b0,b1,b2,a4⟩ := zI Sl48 Sz3 h0 a9;refine xq 2 _ rfl (ip b2 rfl rfl) hS (x_l 3 (iv x31) rfl (by kernel_rfl) (fun w' hw' => zo rfl ((zp Ag3 Sz3 a4) w' hw')) hS (xms 4 rfl rfl hS (xmi 5 rfl rfl hS ?_)));obtain ⟨x33,b3,hs⟩ := bq hs;obtain ⟨b4,b5,b6,a5⟩ := zI Sl48 Sz3 h1 b3;refine xq 6 _ rfl (ip b6 rfl rfl) hS (x_l 7 (iv x33) rfl (by kernel_rfl) (fun w' hw' => zo rfl ((zp Ag3 Sz3 a5) w' hw')) hS (xq 8 (.bool (x31 != x33)) rfl (Xp rfl rfl) hS (xe ?_)));clear hS;rcases zm hs with ⟨a6,hs⟩ | ⟨a6,hs⟩
  ·refine zl (cb a6) (ze (Za [] Mx rfl ?_));have a1 := Chg.drew a3;generalize World.drew a3 = b7 at a1 ⊢;obtain ⟨h0,h1,a4,a5,hC,hO⟩ := xt6 a1 h0 h1 a4 a5 hC hO;have hS := Chg.refl [] b7;refine xms 0 rfl rfl hS (xmi 1 rfl rfl hS ?_);obtain ⟨x37,b8,hs⟩ := bq hs;obtain ⟨b9,c0,c1,c2⟩ := zI Sl48 Sz3 h0 b8;refine xq 2 _ rfl (ip c1 rfl rfl) hS (x_l 3 (iv x37) rfl (by kernel_rfl) (fun w' hw' => zo rfl ((zp Ag3 Sz3 c2) w' hw')) hS (xms 4 rfl rfl hS (xmi 5 rfl rfl hS ?_)));obtain ⟨x39,c3,hs⟩ := bq hs;obtain ⟨c4,c5,c6,c7⟩ := zI Sl48 Sz3 h1 c3;refine xq 6 _ rfl (ip c6 rfl rfl) hS (x_l 7 (iv x39) rfl (by kernel_rfl) (fun w' hw' => zo rfl ((zp Ag3 Sz3 c7) w' hw')) hS (xq 8 _ rfl (zA rfl rfl) hS (xq 9 (.bool (decide (x37 < x39))) rfl (zG rfl) hS (xe ?_))));clear hS;refine wp_ret ?_;cases hs;exact ⟨_,fr_m 30 rfl,hC⟩
  refine zk (cb a6) (wp_skip (zh (mi rfl (za _ (yad rfl rfl) (ai rfl (zb ?_))))));cases hs;exact ⟨_,zF 30 ⟨rfl,rfl,congrArg (Value.int .i64) hw,trivial⟩,hC,hO,h0,h1⟩
 ·exact ⟨_,fr_m 30 rfl,hC,hO,h0,h1⟩
 cases o23 with
 | nx _ => trivial
 | rt r_ =>
  have hs := zr hs;intro c8 a7 hK;cases hs;exact hK
 | br s19 =>
  have hs := zq hs;rintro c8 a0 ⟨σ,rfl,hC,hO,h0,h1⟩;refine c_sr (ab rfl (zb (wp_ret ?_)));cases hs;exact ⟨_,fr_m 30 rfl,hC⟩

def vw (M : Nat → Prop) (w0 : World) (r : Bool) (a : Act) (w : World) : Prop :=
  ∃ σ,a = fr 26 (ovl σ [(4,(.bool r))]) ∧ Chg [] w0 w
def ZN (a_ : List Int) (b : List Int) : Option (Bool) :=
  (bif ((a_.length : Int) != (b.length : Int)) then some false else (forC (S := Unit) (R := Bool) (fun k12 s10 =>
  (idx a_ k12).bind fun x17 =>
  (idx b k12).bind fun x19 =>
  (bif (x17 != x19) then some (.rt false) else some (.nx ()))) 0 (a_.length : Int) ()).bind fun o14 => after o14 (fun r_ => some r_) (fun s10 =>
  some true))
theorem xK (a_ : List Int) (b : List Int) (h0 : rl.val M w (sv pa0 pn0 pc0) a_ []) (h1 : rl.val M w (sv pa1 pn1 pc1) b []) (hM : Hm w M) {r : Bool} (hs : ZN a_ b = some r) :
    Gives Tryz.prog 37 [(sv pa0 pn0 pc0),(sv pa1 pn1 pc1)] w (fun v w' => v = (.bool r) ∧ Chg [] w w') := by
 refine zx Tryz.func37 rfl Tryz.ntmps37 (nl rfl) ?_;obtain ⟨hO,hC⟩ := st0 hM;unfold ZN at hs;refine wp_k (K := (vw M w r)) (by rintro _ _ ⟨σ,rfl,hrest⟩; exact Zd Tryz.results37 (zH rfl) ⟨rfl,hrest⟩) (c_sr (ab rfl (zb (ze (c_sr (ms rfl (za _ (zt Sl48 (zB h0) rfl) (ms rfl (za _ (zt Sl48 (zB h1) rfl) (za (.bool ((a_.length : Int) != (b.length : Int))) (Xp rfl rfl) (zb ?_)))))))))));rcases zm hs with ⟨a2,hs⟩ | ⟨a2,hs⟩
 ·refine zl (cb a2) (c_sr (ab rfl (zb (wp_ret ?_))));cases hs;exact ⟨_,fr_m 26 rfl,hC⟩
 refine zk (cb a2) (wp_skip (ze (c_sr (ai rfl (zb ?_)))));obtain ⟨o14,a5,hs⟩ := bq hs;refine wp_block (zU (id := 0) (a_.length : Int) (I := fun k12 s10 a a0 => ∃ σ,a = fr 26 (ovl σ [(0,(sv pa0 pn0 pc0)),(1,(sv pa1 pn1 pc1)),(5,(iv k12))]) ∧ Chg [] w a0 ∧ Own (Nw w []) M a0 [] ∧ rl.val M a0 (sv pa0 pn0 pc0) a_ [] ∧ rl.val M a0 (sv pa1 pn1 pc1) b []) (J := fun s10 a a0 => ∃ σ,a = fr 26 (ovl σ []) ∧ Chg [] w a0 ∧ Own (Nw w []) M a0 [] ∧ rl.val M a0 (sv pa0 pn0 pc0) a_ [] ∧ rl.val M a0 (sv pa1 pn1 pc1) b []) (K := (vw M w)) ?_ ?_ 0 () o14 _ _ ?_ a5 ?_)
 ·rintro k12 s10 a a0 ⟨σ,rfl,hC,hO,h0,h1⟩ hlt;refine ze (c_sr (mi rfl (ms rfl (za _ (zt Sl48 (zB h0) rfl) (za _ (zA rfl rfl) (zb (zk (df hlt) (wp_exit ?_))))))));exact ⟨rfl,_,zF 26 trivial,hC,hO,h0,h1⟩
 ·rintro k12 s10 o14 a a0 ⟨σ,rfl,hC,hO,h0,h1⟩ hlt hw hs;refine ze (c_sr (mi rfl (ms rfl (za _ (zt Sl48 (zB h0) rfl) (za _ (zA rfl rfl) (zb (zl (dt hlt) (wp_skip (ze (wp_block (ze (Za [] Mx rfl ?_))))))))))));have a1 := Chg.drew a0;generalize World.drew a0 = a6 at a1 ⊢;obtain ⟨h0,h1,hC,hO⟩ := xt4 a1 h0 h1 hC hO;have hS := Chg.refl [] a6;refine xms 0 rfl rfl hS (xmi 1 rfl rfl hS ?_);obtain ⟨x17,a7,hs⟩ := bq hs;obtain ⟨a8,a9,b0,b1⟩ := zI Sl48 Sz3 h0 a7;refine xq 2 _ rfl (ip b0 rfl rfl) hS (x_l 3 (iv x17) rfl (by kernel_rfl) (fun w' hw' => zo rfl ((zp Ag3 Sz3 b1) w' hw')) hS (xms 4 rfl rfl hS (xmi 5 rfl rfl hS ?_)));obtain ⟨x19,b2,hs⟩ := bq hs;obtain ⟨b3,b4,b5,b6⟩ := zI Sl48 Sz3 h1 b2;refine xq 6 _ rfl (ip b5 rfl rfl) hS (x_l 7 (iv x19) rfl (by kernel_rfl) (fun w' hw' => zo rfl ((zp Ag3 Sz3 b6) w' hw')) hS (xq 8 (.bool (x17 != x19)) rfl (Xp rfl rfl) hS (xe ?_)));clear hS;rcases zm hs with ⟨a3,hs⟩ | ⟨a3,hs⟩
  ·refine zl (cb a3) (c_sr (ab rfl (zb (wp_ret ?_))));cases hs;exact ⟨_,fr_m 26 rfl,hC⟩
  refine zk (cb a3) (wp_skip (zh (mi rfl (za _ (yad rfl rfl) (ai rfl (zb ?_))))));cases hs;exact ⟨_,zF 26 ⟨rfl,rfl,congrArg (Value.int .i64) hw,trivial⟩,hC,hO,h0,h1⟩
 ·exact ⟨_,fr_m 26 rfl,hC,hO,h0,h1⟩
 cases o14 with
 | nx _ => trivial
 | rt r_ =>
  have hs := zr hs;intro b7 a4 hK;cases hs;exact hK
 | br s10 =>
  have hs := zq hs;rintro b7 a0 ⟨σ,rfl,hC,hO,h0,h1⟩;refine c_sr (ab rfl (zb (wp_ret ?_)));cases hs;exact ⟨_,fr_m 26 rfl,hC⟩

theorem Bd92 : zK Tryz.prog 92 := zP Tryz.func92 (by kernel_rfl) rfl

theorem Bd37 : zK Tryz.prog 37 := zP Tryz.func37 (by kernel_rfl) rfl

def vA (M : Nat → Prop) (w0 : World) (r : Int × Bool) (a : Act) (w : World) : Prop :=
  ∃ σ,a = fr 40 (ovl σ [(4,(iv r.1)),(5,(.bool r.2))]) ∧ Chg [] w0 w
def Zi (list : List (List Int)) (t : List Int) : Option (Int × Bool) :=
  (iter (S := Int × Int) (R := Int × Bool) (fun s11 =>
  (bif (decide (s11.1 < s11.2)) then (idx list (w64 (Int.tdiv (w64 (s11.1 + s11.2)) 2))).bind fun x18 =>
  (YB x18 t).bind fun r23 =>
  (bif r23 then some (.nx (w64 ((w64 (Int.tdiv (w64 (s11.1 + s11.2)) 2)) + 1),s11.2)) else some (.nx (s11.1,w64 (Int.tdiv (w64 (s11.1 + s11.2)) 2)))) else some (.br (s11.1,s11.2)))) FU (0,(list.length : Int))).bind fun o15 => after o15 (fun r_ => some r_) (fun s11 =>
  (bif (decide (s11.1 < (list.length : Int))) then (idx list s11.1).bind fun x26 =>
  (ZN x26 t).bind fun r31 =>
  some (s11.1,r31) else some (s11.1,false)))
theorem xJ (list : tM) (t : List Int) (h0 : rm.val M w (sv pa0 pn0 pc0) list []) (h1 : rl.val M w (sv pa1 pn1 pc1) t []) (hM : Hm w M) {r : Int × Bool} (hs : Zi list t = some r) :
    Gives Tryz.prog 51 [(sv pa0 pn0 pc0),(sv pa1 pn1 pc1)] w (fun v w' => v = (.tuple #[(iv r.1),(.bool r.2)]) ∧ Chg [] w w') := by
 refine zx Tryz.func51 rfl Tryz.ntmps51 (nl rfl) ?_;obtain ⟨hO,hC⟩ := st0 hM;unfold Zi at hs;refine wp_k (K := (vA M w r)) (by rintro _ _ ⟨σ,rfl,hrest⟩; exact WN Tryz.results51 (zH rfl) (zH rfl) ⟨rfl,hrest⟩) (c_sr (ai rfl (ab rfl (zb (c_sr (ms rfl (za _ (zt Sl56 (zB h0) rfl) (ai rfl (ai rfl (zb (ze ?_)))))))))));obtain ⟨o15,b1,hs⟩ := bq hs;refine wp_block (ZG (id := 0) (I := fun s11 a a1 => ∃ σ,a = fr 40 (ovl σ [(0,(sv pa0 pn0 pc0)),(1,(sv pa1 pn1 pc1)),(6,(iv s11.1)),(7,(iv s11.2))]) ∧ Chg [] w a1 ∧ Own (Nw w []) M a1 [] ∧ rm.val M a1 (sv pa0 pn0 pc0) list [] ∧ rl.val M a1 (sv pa1 pn1 pc1) t []) (J := fun s11 a a1 => ∃ σ,a = fr 40 (ovl σ [(0,(sv pa0 pn0 pc0)),(1,(sv pa1 pn1 pc1)),(6,(iv s11.1))]) ∧ Chg [] w a1 ∧ Own (Nw w []) M a1 [] ∧ rm.val M a1 (sv pa0 pn0 pc0) list [] ∧ rl.val M a1 (sv pa1 pn1 pc1) t []) (K := (vA M w)) ?_ FU (0,(list.length : Int)) o15 _ _ ?_ b1 ?_)
 ·rintro s11 o15 a a1 ⟨σ,rfl,hC,hO,h0,h1⟩ hs;refine ze (c_sr (mi rfl (mi rfl (za _ (zA rfl rfl) (zb ?_)))));rcases zm hs with ⟨a6,hs⟩ | ⟨a6,hs⟩
  ·refine zl (cb a6) (wp_skip (wp_block (c_sr (mi rfl (mi rfl (za _ (yad rfl rfl) (za (iv (w64 (Int.tdiv (w64 (s11.1 + s11.2)) 2))) (UH rfl rfl (by decide)) (ai rfl (zb (c_sr (ms rfl (mi rfl ?_))))))))))));obtain ⟨x18,b2,hs⟩ := bq hs;obtain ⟨b3,b4,b5,a7⟩ := zI Sl56 Sz48 h0 b2;refine za _ (ip b5 rfl rfl) ?_;obtain ⟨d1,b6,a4⟩ := zT Ag48 Sz48 (fun _ => rfl) a7;obtain ⟨b7,b8,b9,rfl⟩ := Zw a4;refine za (sv b7 b8 b9) (zo rfl (b6 _ (Chg.refl _ _))) (ms rfl ?_);obtain ⟨r23,c0,hs⟩ := bq hs;refine zC Bd92 rfl (vJ (M := M) x18 t a4 h1 hO.fut c0) ?_;rintro _ d2 ⟨rfl,a2⟩;obtain ⟨h0,h1,a4,a7,hC,hO⟩ := xt6 a2 h0 h1 a4 a7 hC hO;refine zb ?_;rcases zm hs with ⟨a8,hs⟩ | ⟨a8,hs⟩
   ·refine zl (cb a8) (zh (mi rfl (za _ (yad rfl rfl) (ai rfl (zb ?_)))));cases hs;exact ⟨_,fr_m 40 rfl,hC,hO,h0,h1⟩
   refine zk (cb a8) (zh (mi rfl (ai rfl (zb ?_))));cases hs;exact ⟨_,fr_m 40 rfl,hC,hO,h0,h1⟩
  refine zk (cb a6) (wp_exit ?_);cases hs;exact ⟨rfl,_,fr_m 40 rfl,hC,hO,h0,h1⟩
 ·exact ⟨_,fr_m 40 rfl,hC,hO,h0,h1⟩
 cases o15 with
 | nx _ => trivial
 | rt r_ =>
  have hs := zr hs;intro c1 b0 hK;cases hs;exact hK
 | br s11 =>
  have hs := zq hs;rintro c1 a1 ⟨σ,rfl,hC,hO,h0,h1⟩;refine c_sr (mi rfl (mi rfl (ms rfl (za _ (zt Sl56 (zB h0) rfl) (za _ (zA rfl rfl) (mb rfl ?_))))));rcases zm hs with ⟨a0,hs⟩ | ⟨a0,hs⟩
  ·refine py 32 (sv pa0 pn0 pc0) (cb a0) (zD rfl) (py 32 (iv s11.1) (cb a0) (zD rfl) ?_);obtain ⟨x26,c2,hs⟩ := bq hs;obtain ⟨c3,c4,c5,a9⟩ := zI Sl56 Sz48 h0 c2;refine py 32 _ (cb a0) (ip c5 rfl rfl) ?_;obtain ⟨d3,c6,a5⟩ := zT Ag48 Sz48 (fun _ => rfl) a9;obtain ⟨c7,c8,c9,rfl⟩ := Zw a5;refine py 32 (sv c7 c8 c9) (cb a0) (zo rfl (c6 _ (Chg.refl _ _))) (py 32 (sv pa1 pn1 pc1) (cb a0) (zD rfl) ?_);obtain ⟨r31,d0,hs⟩ := bq hs;refine Xm (tg := 32) (by kernel_rfl) (cb a0) Bd37 rfl (xK (M := M) x26 t a5 h1 hO.fut d0) ?_;rintro _ d4 ⟨rfl,a3⟩;obtain ⟨h0,h1,a5,a9,hC,hO⟩ := xt6 a3 h0 h1 a5 a9 hC hO;refine za _ (ptb (cb a0) rfl) (ai rfl (ab rfl (zb (wp_ret ?_))));cases hs;exact ⟨_,fr_m 40 rfl,hC⟩
  refine pn 32 (cb a0) (pn 32 (cb a0) (pn 32 (cb a0) (pn 32 (cb a0) (pn 32 (cb a0) (pn 32 (cb a0) (za _ (pfb (cb a0) rfl) (ai rfl (ab rfl (zb (wp_ret ?_))))))))));cases hs;exact ⟨_,fr_m 40 rfl,hC⟩

theorem Bd51 : zK Tryz.prog 51 := zP Tryz.func51 (by kernel_rfl) rfl

theorem Rw56 : RowT Tryz.prog 56 48 1 [(.slice none 0 0)] := ⟨Tryz.underlying56,⟨_,_,rfl,rfl,rfl,rfl,by decide⟩,rfl,by decide⟩

def zbE (M : Nat → Prop) (w0 : World) (r : tM) (a : Act) (w : World) : Prop :=
  ∃ σ ra0 rn0 rc0,a = fr 27 (ovl σ [(4,(sv ra0 rn0 rc0))]) ∧ Chg [] w0 w ∧ rm.val (Past M w0 w) w (sv ra0 rn0 rc0) r []
def yb (list : List (List Int)) (t : List Int) : Option ((List (List Int))) :=
  (Zi list t).bind fun r4 =>
  (bif r4.2 then some list else (slc list 0 r4.1).bind fun y8 =>
  (slc list r4.1 (list.length : Int)).bind fun y11 =>
  (app ([]) y8).bind fun y17 =>
  (app y17 ([t])).bind fun y22 =>
  (app y22 y11).bind fun y25 =>
  some y25)
theorem VB (list : tM) (t : List Int) (h0 : rm.val M w (sv pa0 pn0 pc0) list []) (h1 : rl.val M w (sv pa1 pn1 pc1) t []) (hM : Hm w M) {r : tM} (hs : yb list t = some r) :
    Gives Tryz.prog 88 [(sv pa0 pn0 pc0),(sv pa1 pn1 pc1)] w (fun v w' => ∃ ra0 rn0 rc0,v = (sv ra0 rn0 rc0) ∧ Chg [] w w' ∧ rm.val (Past M w w') w' (sv ra0 rn0 rc0) r []) := by
 refine zx Tryz.func88 rfl Tryz.ntmps88 (nl rfl) ?_;obtain ⟨hO,hC⟩ := st0 hM;unfold yb at hs;refine wp_k (K := (zbE M w r)) (by rintro _ _ ⟨σ,ra0,rn0,rc0,rfl,hrest⟩; exact Zd Tryz.results88 (zH rfl) ⟨ra0,rn0,rc0,rfl,hrest⟩) (c_sr (ax rfl (zb (c_sr (ms rfl (ms rfl ?_))))));obtain ⟨r4,j5,hs⟩ := bq hs;refine zC Bd51 rfl (xJ (M := M) list t h0 h1 hO.fut j5) ?_;rintro _ h6 ⟨rfl,d8⟩;obtain ⟨h0,h1,hC,hO⟩ := xt4 d8 h0 h1 hC hO;refine za (.tuple #[(iv r4.1),(.bool r4.2)]) (zD rfl) (za (iv r4.1) (zE rfl (by kernel_rfl)) (za (.bool r4.2) (zE rfl (by kernel_rfl)) (ai rfl (ab rfl (zb (ze (c_sr (mb rfl (zb ?_)))))))));rcases zm hs with ⟨f1,hs⟩ | ⟨f1,hs⟩
 ·refine zl (cb f1) (c_sr (ms rfl (ax rfl (zb (wp_ret ?_)))));cases hs;exact ⟨_,pa0,pn0,pc0,fr_m 27 rfl,hC,(Keeps.out Keeps.refl h0)⟩
 refine zk (cb f1) (wp_skip (ze (Za [4,7,11] Mx rfl ?_)));have c3 := Chg.drew h6;generalize World.drew h6 = f2 at c3 ⊢;obtain ⟨h0,h1,hC,hO⟩ := xt4 c3 h0 h1 hC hO;have hS := Chg.refl [] f2;refine xms 1 rfl rfl hS (xmi 2 rfl rfl hS ?_);obtain ⟨y8,j6,hs⟩ := bq hs;obtain ⟨j7,j8,j9,a0,q5,k0,q6⟩ := Ub Tryz.underlying56 Sz48 h0 j6;refine xq 3 (sv j7 j8 j9) rfl (uV rfl rfl rfl (k0 rfl _)) hS (xms 5 rfl rfl hS (xms 8 rfl rfl hS (xmi 9 rfl rfl hS ?_)));obtain ⟨y11,k1,hs⟩ := bq hs;obtain ⟨k2,k3,k4,a1,q7,q8,k5⟩ := Ub Tryz.underlying56 Sz48 h0 k1;refine xq 10 (sv k2 k3 k4) rfl (uV rfl rfl rfl (k5 rfl _)) hS (XR (i := 0) (j := 6) (by kernel_rfl) ?_ ?_)
 ·obtain ⟨f3,f4,k6,h7,a5,h8⟩ := zg f2 [] 48;refine zO (w' := f3) (b := false) (sv (some ⟨f4,0,none⟩) 0 0) rfl (zy rfl (by rw [k6,h7]; kernel_rfl)) rfl (fun _ => hS.ext a5) ?_;obtain ⟨h0,h1,a0,a1,hC⟩ := xt5 a5 h0 h1 a0 a1 hC;have hO := hO.new1 a5 h7 h8.lt;have b1 := os0 (r := (RT.os 3 ri)) (M := M) h8;have hS := hS.ext a5;refine XR (i := 4) (j := 6) (by kernel_rfl) ?_ ?_
  ·obtain ⟨b2,q9,d9,k7,hO,h9⟩ := Zj (Frz.os Frz.int) b1 hO;obtain ⟨h0,h1,a0,a1⟩ := su4 d9 h0 h1 a0 a1;have hK := k7;obtain ⟨y17,c4,hs⟩ := bq hs;obtain ⟨k8,k9,l0,i0,r0,l1,b3,l2,b4⟩ := yO Rw56 c4 h9 a0 hO.inM;have c5 := zw h9;refine zO (w' := i0) (b := true) (sv k8 k9 l0) rfl (zJ rfl rfl (l1 _)) rfl (fun h => nomatch h) ?_;have h0 := h0.mt b3 hO c5;have h1 := h1.mt b3 hO c5;have a0 := a0.mt b3 hO c5;have a1 := a1.mt b3 hO c5;have hC := hC.st b3 hO c5;have hO := hO.grow b3 l2 (zu b4) b4.fpl;refine zN (i := 6) (by kernel_rfl) ?_;obtain ⟨i1,f5,l3,i2,a7,i3⟩ := zg i0 [(sv pa1 pn1 pc1)] 48;refine zO (w' := i1) (b := true) (sv (some ⟨f5,0,none⟩) 1 1) rfl (zy rfl (by rw [l3,i2]; kernel_rfl)) rfl (fun h => nomatch h) ?_;obtain ⟨h0,h1,a0,a1,b4,hC⟩ := xt6 a7 h0 h1 a0 a1 b4 hC;have hO := hO.new1 a7 i2 i3.lt;have f6 := zQ (r := rl) (M := b2) (css := [[(sv pa1 pn1 pc1)]]) (fps := [([] : List Nat)]) (xs := ([t] : tM)) i3 ⟨(ZX h1),trivial⟩ (nl rfl) nd1;have f6 : (RT.os 48 rl).val b2 i1 (sv (some ⟨f5,0,none⟩) 1 1) [t] [f5] := f6;refine zN (i := 7) (by kernel_rfl) ?_;obtain ⟨y22,c6,hs⟩ := bq hs;have hO := hO.fr1;obtain ⟨l4,l5,l6,l7,r1,l8,b5,l9,e0⟩ := Zg Rw56 c6 b4 f6 hO.inM (fun g hg hq => hO.apart g hq (zn hg));have c7 := zw b4;refine zO (w' := l7) (b := true) (sv l4 l5 l6) rfl (zJ rfl rfl (l8 _)) rfl (fun h => nomatch h) ?_;have hO := hO.fr1.fr1;have h0 := h0.mt b5 hO c7;have h1 := h1.mt b5 hO c7;have a0 := a0.mt b5 hO c7;have a1 := a1.mt b5 hO c7;have hC := hC.st b5 hO c7;have hO := hO.eat b5 l9 (zu e0) e0.fpl;refine zN (i := 11) (by kernel_rfl) ?_;obtain ⟨y25,c8,hs⟩ := bq hs;obtain ⟨f7,f8,f9,m0,r2,m1,b6,m2,g0⟩ := yO Rw56 c8 e0 a1 hO.inM;have c9 := zw e0;refine zO (w' := m0) (b := true) (sv f7 f8 f9) rfl (zJ rfl rfl (m1 _)) rfl (fun h => nomatch h) ?_;have h0 := h0.mt b6 hO c9;have h1 := h1.mt b6 hO c9;have a0 := a0.mt b6 hO c9;have a1 := a1.mt b6 hO c9;have hC := hC.st b6 hO c9;have hO := hO.grow b6 m2 (zu g0) g0.fpl;refine x_p 12 (sv f7 f8 f9) rfl (by kernel_rfl) (fun _ => zG rfl) (fun h => nomatch h) (xe ?_);clear hS;refine wp_ret ?_;cases hs;obtain ⟨e1,r3,e2,m3,hO,m4⟩ := Zm (Frz.os (Frz.rs Frz.int)) g0 hO;obtain ⟨h0,h1,a0,a1⟩ := su4 e2 h0 h1 a0 a1;have hK := hK.trans m3;exact ⟨_,f7,f8,f9,fr_m 27 rfl,hC,(Keeps.out hK m4)⟩
  ·obtain ⟨i4,g1,m5,i5,a2,i6⟩ := zg f3 [(sv pa1 pn1 pc1)] 48;refine zO (w' := i4) (b := false) (sv (some ⟨g1,0,none⟩) 1 1) rfl (zy rfl (by rw [m5,i5]; kernel_rfl)) rfl (fun _ => hS.ext a2) ?_;obtain ⟨h0,h1,a0,a1,b1,hC⟩ := xt6 a2 h0 h1 a0 a1 b1 hC;have hO := hO.new1 a2 i5 i6.lt;have a8 := zQ (r := rl) (M := M) (css := [[(sv pa1 pn1 pc1)]]) (fps := [([] : List Nat)]) (xs := ([t] : tM)) i6 ⟨(ZX h1),trivial⟩ (nl rfl) nd1;have a8 : (RT.os 48 rl).val M i4 (sv (some ⟨g1,0,none⟩) 1 1) [t] [g1] := a8;have hS := hS.ext a2;refine zN (i := 4) (by kernel_rfl) ?_;have hO := hO.fr1;obtain ⟨d0,r5,d1,m6,hO,i7⟩ := Zj (Frz.os Frz.int) b1 hO;obtain ⟨h0,h1,a0,a1,a8⟩ := su5 d1 h0 h1 a0 a1 a8;have hK := m6;obtain ⟨y17,c4,hs⟩ := bq hs;obtain ⟨m7,m8,m9,n0,r6,n1,a9,n2,e3⟩ := yO Rw56 c4 i7 a0 hO.inM;have b7 := zw i7;refine zO (w' := n0) (b := true) (sv m7 m8 m9) rfl (zJ rfl rfl (n1 _)) rfl (fun h => nomatch h) ?_;have h0 := h0.mt a9 hO b7;have h1 := h1.mt a9 hO b7;have a0 := a0.mt a9 hO b7;have a1 := a1.mt a9 hO b7;have a8 := a8.ma a9 hO b7 (fun _ e => (zn (e)));have hC := hC.st a9 hO b7;have hO := hO.grow a9 n2 (zu e3) e3.fpl;refine zN (i := 7) (by kernel_rfl) ?_;obtain ⟨y22,c6,hs⟩ := bq hs;have hO := hO.fr1.fr1;obtain ⟨n3,n4,n5,n6,r7,n7,b8,n8,e4⟩ := Zg Rw56 c6 e3 a8 hO.inM (fun g hg hq => hO.apart g hq (zn hg));have d2 := zw e3;refine zO (w' := n6) (b := true) (sv n3 n4 n5) rfl (zJ rfl rfl (n7 _)) rfl (fun h => nomatch h) ?_;have hO := hO.fr1.fr1;have h0 := h0.mt b8 hO d2;have h1 := h1.mt b8 hO d2;have a0 := a0.mt b8 hO d2;have a1 := a1.mt b8 hO d2;have hC := hC.st b8 hO d2;have hO := hO.eat b8 n8 (zu e4) e4.fpl;refine zN (i := 11) (by kernel_rfl) ?_;obtain ⟨y25,c8,hs⟩ := bq hs;obtain ⟨g2,g3,g4,n9,r8,o0,b9,o1,g5⟩ := yO Rw56 c8 e4 a1 hO.inM;have d3 := zw e4;refine zO (w' := n9) (b := true) (sv g2 g3 g4) rfl (zJ rfl rfl (o0 _)) rfl (fun h => nomatch h) ?_;have h0 := h0.mt b9 hO d3;have h1 := h1.mt b9 hO d3;have a0 := a0.mt b9 hO d3;have a1 := a1.mt b9 hO d3;have hC := hC.st b9 hO d3;have hO := hO.grow b9 o1 (zu g5) g5.fpl;refine x_p 12 (sv g2 g3 g4) rfl (by kernel_rfl) (fun _ => zG rfl) (fun h => nomatch h) (xe ?_);clear hS;refine wp_ret ?_;cases hs;obtain ⟨e5,r9,e6,o2,hO,o3⟩ := Zm (Frz.os (Frz.rs Frz.int)) g5 hO;obtain ⟨h0,h1,a0,a1⟩ := su4 e6 h0 h1 a0 a1;have hK := hK.trans o2;exact ⟨_,g2,g3,g4,fr_m 27 rfl,hC,(Keeps.out hK o3)⟩
 ·obtain ⟨g6,g7,o4,i9,a6,j0⟩ := zg f2 [(sv pa1 pn1 pc1)] 48;refine zO (w' := g6) (b := false) (sv (some ⟨g7,0,none⟩) 1 1) rfl (zy rfl (by rw [o4,i9]; kernel_rfl)) rfl (fun _ => hS.ext a6) ?_;obtain ⟨h0,h1,a0,a1,hC⟩ := xt5 a6 h0 h1 a0 a1 hC;have hO := hO.new1 a6 i9 j0.lt;have a3 := zQ (r := rl) (M := M) (css := [[(sv pa1 pn1 pc1)]]) (fps := [([] : List Nat)]) (xs := ([t] : tM)) j0 ⟨(ZX h1),trivial⟩ (nl rfl) nd1;have a3 : (RT.os 48 rl).val M g6 (sv (some ⟨g7,0,none⟩) 1 1) [t] [g7] := a3;have hS := hS.ext a6;refine zN (i := 0) (by kernel_rfl) ?_;obtain ⟨j1,g8,o5,j2,a4,j3⟩ := zg g6 [] 48;refine zO (w' := j1) (b := false) (sv (some ⟨g8,0,none⟩) 0 0) rfl (zy rfl (by rw [o5,j2]; kernel_rfl)) rfl (fun _ => hS.ext a4) ?_;obtain ⟨h0,h1,a0,a1,a3,hC⟩ := xt6 a4 h0 h1 a0 a1 a3 hC;have hO := hO.new1 a4 j2 j3.lt;have g9 := os0 (r := (RT.os 3 ri)) (M := M) j3;have hS := hS.ext a4;refine zN (i := 4) (by kernel_rfl) ?_;obtain ⟨d4,s0,d5,o6,hO,j4⟩ := Zj (Frz.os Frz.int) g9 hO;obtain ⟨h0,h1,a0,a1,a3⟩ := su5 d5 h0 h1 a0 a1 a3;have hK := o6;obtain ⟨y17,c4,hs⟩ := bq hs;obtain ⟨o7,o8,o9,p0,s1,p1,b0,p2,e7⟩ := yO Rw56 c4 j4 a0 hO.inM;have c0 := zw j4;refine zO (w' := p0) (b := true) (sv o7 o8 o9) rfl (zJ rfl rfl (p1 _)) rfl (fun h => nomatch h) ?_;have h0 := h0.mt b0 hO c0;have h1 := h1.mt b0 hO c0;have a0 := a0.mt b0 hO c0;have a1 := a1.mt b0 hO c0;have a3 := a3.ma b0 hO c0 (fun _ e => (zn (e)));have hC := hC.st b0 hO c0;have hO := hO.grow b0 p2 (zu e7) e7.fpl;refine zN (i := 7) (by kernel_rfl) ?_;obtain ⟨y22,c6,hs⟩ := bq hs;have hO := hO.fr1.fr1;obtain ⟨p3,p4,p5,p6,s2,p7,c1,p8,e8⟩ := Zg Rw56 c6 e7 a3 hO.inM (fun g hg hq => hO.apart g hq (zn hg));have d6 := zw e7;refine zO (w' := p6) (b := true) (sv p3 p4 p5) rfl (zJ rfl rfl (p7 _)) rfl (fun h => nomatch h) ?_;have hO := hO.fr1.fr1;have h0 := h0.mt c1 hO d6;have h1 := h1.mt c1 hO d6;have a0 := a0.mt c1 hO d6;have a1 := a1.mt c1 hO d6;have hC := hC.st c1 hO d6;have hO := hO.eat c1 p8 (zu e8) e8.fpl;refine zN (i := 11) (by kernel_rfl) ?_;obtain ⟨y25,c8,hs⟩ := bq hs;obtain ⟨h2,h3,h4,p9,s3,q0,c2,q1,h5⟩ := yO Rw56 c8 e8 a1 hO.inM;have d7 := zw e8;refine zO (w' := p9) (b := true) (sv h2 h3 h4) rfl (zJ rfl rfl (q0 _)) rfl (fun h => nomatch h) ?_;have h0 := h0.mt c2 hO d7;have h1 := h1.mt c2 hO d7;have a0 := a0.mt c2 hO d7;have a1 := a1.mt c2 hO d7;have hC := hC.st c2 hO d7;have hO := hO.grow c2 q1 (zu h5) h5.fpl;refine x_p 12 (sv h2 h3 h4) rfl (by kernel_rfl) (fun _ => zG rfl) (fun h => nomatch h) (xe ?_);clear hS;refine wp_ret ?_;cases hs;obtain ⟨e9,s4,f0,q2,hO,q3⟩ := Zm (Frz.os (Frz.rs Frz.int)) h5 hO;obtain ⟨h0,h1,a0,a1⟩ := su4 f0 h0 h1 a0 a1;have hK := hK.trans q2;exact ⟨_,h2,h3,h4,fr_m 27 rfl,hC,(Keeps.out hK q3)⟩

def VP (M : Nat → Prop) (w0 : World) (r : Bool) (a : Act) (w : World) : Prop :=
  ∃ σ,a = fr 18 (ovl σ [(4,(.bool r))]) ∧ Chg [] w0 w
def yU (l : List Int) (n : Int) : Option (Bool) :=
  (forC (S := Unit) (R := Bool) (fun k7 s5 =>
  (idx l k7).bind fun x11 =>
  (bif (x11 == n) then some (.rt true) else some (.nx ()))) 0 (l.length : Int) ()).bind fun o9 => after o9 (fun r_ => some r_) (fun s5 =>
  some false)
theorem zbd (l : List Int) (n : Int) (h0 : rl.val M w (sv pa0 pn0 pc0) l []) (hM : Hm w M) {r : Bool} (hs : yU l n = some r) :
    Gives Tryz.prog 89 [(sv pa0 pn0 pc0),(iv n)] w (fun v w' => v = (.bool r) ∧ Chg [] w w') := by
 refine zx Tryz.func89 rfl Tryz.ntmps89 (nl rfl) ?_;obtain ⟨hO,hC⟩ := st0 hM;unfold yU at hs;refine wp_k (K := (VP M w r)) (by rintro _ _ ⟨σ,rfl,hrest⟩; exact Zd Tryz.results89 (zH rfl) ⟨rfl,hrest⟩) (c_sr (ab rfl (zb (ze (c_sr (ai rfl (zb ?_)))))));obtain ⟨o9,a3,hs⟩ := bq hs;refine wp_block (zU (id := 0) (l.length : Int) (I := fun k7 s5 a a0 => ∃ σ,a = fr 18 (ovl σ [(0,(sv pa0 pn0 pc0)),(1,(iv n)),(5,(iv k7))]) ∧ Chg [] w a0 ∧ Own (Nw w []) M a0 [] ∧ rl.val M a0 (sv pa0 pn0 pc0) l []) (J := fun s5 a a0 => ∃ σ,a = fr 18 (ovl σ []) ∧ Chg [] w a0 ∧ Own (Nw w []) M a0 [] ∧ rl.val M a0 (sv pa0 pn0 pc0) l []) (K := (VP M w)) ?_ ?_ 0 () o9 _ _ ?_ a3 ?_)
 ·rintro k7 s5 a a0 ⟨σ,rfl,hC,hO,h0⟩ hlt;refine ze (c_sr (mi rfl (ms rfl (za _ (zt Sl48 (zB h0) rfl) (za _ (zA rfl rfl) (zb (zk (df hlt) (wp_exit ?_))))))));exact ⟨rfl,_,zF 18 trivial,hC,hO,h0⟩
 ·rintro k7 s5 o9 a a0 ⟨σ,rfl,hC,hO,h0⟩ hlt hw hs;refine ze (c_sr (mi rfl (ms rfl (za _ (zt Sl48 (zB h0) rfl) (za _ (zA rfl rfl) (zb (zl (dt hlt) (wp_skip (ze (wp_block (c_sr (ms rfl (mi rfl ?_)))))))))))));obtain ⟨x11,a4,hs⟩ := bq hs;obtain ⟨a5,a6,a7,a8⟩ := zI Sl48 Sz3 h0 a4;refine za _ (ip a7 rfl rfl) (za (iv x11) (zo rfl ((zp Ag3 Sz3 a8) _ (Chg.refl _ _))) (mi rfl (za (.bool (x11 == n)) (xn rfl rfl) (zb ?_))));rcases zm hs with ⟨a1,hs⟩ | ⟨a1,hs⟩
  ·refine zl (cb a1) (c_sr (ab rfl (zb (wp_ret ?_))));cases hs;exact ⟨_,fr_m 18 rfl,hC⟩
  refine zk (cb a1) (wp_skip (zh (mi rfl (za _ (yad rfl rfl) (ai rfl (zb ?_))))));cases hs;exact ⟨_,zF 18 ⟨rfl,rfl,congrArg (Value.int .i64) hw,trivial⟩,hC,hO,h0⟩
 ·exact ⟨_,fr_m 18 rfl,hC,hO,h0⟩
 cases o9 with
 | nx _ => trivial
 | rt r_ =>
  have hs := zr hs;intro a9 a2 hK;cases hs;exact hK
 | br s5 =>
  have hs := zq hs;rintro a9 a0 ⟨σ,rfl,hC,hO,h0⟩;refine c_sr (ab rfl (zb (wp_ret ?_)));cases hs;exact ⟨_,fr_m 18 rfl,hC⟩

def Wu (M : Nat → Prop) (w0 : World) (r : tM) (a : Act) (w : World) : Prop :=
  ∃ σ ra0 rn0 rc0,a = fr 25 (ovl σ [(4,(sv ra0 rn0 rc0))]) ∧ Chg [] w0 w ∧ rm.val (Past M w0 w) w (sv ra0 rn0 rc0) r []
def yN (line : List (List Int)) (numbers : List Int) : Option ((List (List Int))) :=
  (forC (S := (List (List Int))) (R := (List (List Int))) (fun k36 s34 =>
  (idx numbers k36).bind fun x46 =>
  (idx line x46).bind fun x48 =>
  (app s34 ([x48])).bind fun y55 =>
  some (.nx y55)) 0 (numbers.length : Int) ([])).bind fun o38 => after o38 (fun r_ => some r_) (fun s34 =>
  some s34)
theorem uG (line : tM) (numbers : List Int) (h0 : rm.val M w (sv pa0 pn0 pc0) line []) (h1 : rl.val M w (sv pa1 pn1 pc1) numbers []) (hM : Hm w M) {r : tM} (hs : yN line numbers = some r) :
    Gives Tryz.prog 90 [(sv pa0 pn0 pc0),(sv pa1 pn1 pc1)] w (fun v w' => ∃ ra0 rn0 rc0,v = (sv ra0 rn0 rc0) ∧ Chg [] w w' ∧ rm.val (Past M w w') w' (sv ra0 rn0 rc0) r []) := by
 refine zx Tryz.func90 rfl Tryz.ntmps90 (nl rfl) ?_;obtain ⟨hO,hC⟩ := st0 hM;unfold yN at hs;refine wp_k (K := (Wu M w r)) (by rintro _ _ ⟨σ,ra0,rn0,rc0,rfl,hrest⟩; exact Zd Tryz.results90 (zH rfl) ⟨ra0,rn0,rc0,rfl,hrest⟩) (c_sr (ax rfl (zb (c_sr ?_))));obtain ⟨d1,b2,d9,d2,b5,d3⟩ := zg w [] 48;refine za (w' := d1) (sv (some ⟨b2,0,none⟩) 0 0) (zy rfl (by rw [d9,d2]; kernel_rfl)) ?_;obtain ⟨h0,h1,hC⟩ := xt3 b5 h0 h1 hC;have hO := hO.new1 b5 d2 d3.lt;have b7 := os0 (r := (RT.os 3 ri)) (M := M) d3;refine ax rfl (zb (ze (c_sr (ai rfl (zb ?_)))));obtain ⟨b8,e0,d4,e1,hO,e2⟩ := Zj (Frz.os Frz.int) b7 hO;obtain ⟨h0,h1⟩ := su2 d4 h0 h1;have hK := e1;obtain ⟨o38,e3,hs⟩ := bq hs;refine wp_block (zU (id := 0) (numbers.length : Int) (I := fun k36 s34 a a0 => ∃ σ a1 a3 a4 a5 b3,a = fr 25 (ovl σ [(0,(sv pa0 pn0 pc0)),(1,(sv pa1 pn1 pc1)),(5,(sv a3 a4 a5)),(6,(iv k36))]) ∧ Chg [] w a0 ∧ Own (Nw w []) a1 a0 (b3 ++ []) ∧ Keeps w M a1 ∧ rm.val a1 a0 (sv pa0 pn0 pc0) line [] ∧ rl.val a1 a0 (sv pa1 pn1 pc1) numbers [] ∧ (RT.os 48 rl).val a1 a0 (sv a3 a4 a5) s34 b3) (J := fun s34 a a0 => ∃ σ a6 a7 a8 a9 b9,a = fr 25 (ovl σ [(5,(sv a7 a8 a9))]) ∧ Chg [] w a0 ∧ Own (Nw w []) a6 a0 (b9 ++ []) ∧ Keeps w M a6 ∧ rm.val a6 a0 (sv pa0 pn0 pc0) line [] ∧ rl.val a6 a0 (sv pa1 pn1 pc1) numbers [] ∧ (RT.os 48 rl).val a6 a0 (sv a7 a8 a9) s34 b9) (K := (Wu M w)) ?_ ?_ 0 [] o38 _ _ ?_ e3 ?_)
 ·rintro k36 s34 a a0 ⟨σ,a1,a3,a4,a5,b3,rfl,hC,hO,hK,h0,h1,b0⟩ hlt;refine ze (c_sr (mi rfl (ms rfl (za _ (zt Sl48 (zB h1) rfl) (za _ (zA rfl rfl) (zb (zk (df hlt) (wp_exit ?_))))))));exact ⟨rfl,_,a1,a3,a4,a5,b3,fr_m 25 rfl,hC,hO,hK,h0,h1,b0⟩
 ·rintro k36 s34 o38 a a0 ⟨σ,a1,a3,a4,a5,b3,rfl,hC,hO,hK,h0,h1,b0⟩ hlt hw hs;refine ze (c_sr (mi rfl (ms rfl (za _ (zt Sl48 (zB h1) rfl) (za _ (zA rfl rfl) (zb (zl (dt hlt) (wp_skip (ze (wp_block (zh (ms rfl (ms rfl (ms rfl (mi rfl ?_)))))))))))))));obtain ⟨x46,e4,hs⟩ := bq hs;obtain ⟨e5,e6,e7,c0⟩ := zI Sl48 Sz3 h1 e4;refine za _ (ip e7 rfl rfl) (za (iv x46) (zo rfl ((zp Ag3 Sz3 c0) _ (Chg.refl _ _))) ?_);obtain ⟨x48,e8,hs⟩ := bq hs;obtain ⟨e9,f0,f1,c1⟩ := zI Sl56 Sz48 h0 e8;refine za _ (ip f1 rfl rfl) ?_;obtain ⟨g3,f2,b1⟩ := zT Ag48 Sz48 (fun _ => rfl) c1;obtain ⟨c2,c3,c4,rfl⟩ := Zw b1;refine za (sv c2 c3 c4) (zo rfl (f2 _ (Chg.refl _ _))) ?_;obtain ⟨d5,c5,f3,d6,a2,d7⟩ := zg a0 [(sv c2 c3 c4)] 48;refine za (w' := d5) (sv (some ⟨c5,0,none⟩) 1 1) (zy rfl (by rw [f3,d6]; kernel_rfl)) ?_;obtain ⟨h0,h1,b0,b1,c0,c1,hC⟩ := xt7 a2 h0 h1 b0 b1 c0 c1 hC;have hO := hO.new1 a2 d6 d7.lt;have c6 := zQ (r := rl) (M := a1) (css := [[(sv c2 c3 c4)]]) (fps := [([] : List Nat)]) (xs := ([x48] : tM)) d7 ⟨(ZX b1),trivial⟩ (nl rfl) nd1;have c6 : (RT.os 48 rl).val a1 d5 (sv (some ⟨c5,0,none⟩) 1 1) [x48] [c5] := c6;obtain ⟨y55,f4,hs⟩ := bq hs;have hO := hO.fr1;obtain ⟨c7,c8,c9,f5,f6,f7,b4,f8,d0⟩ := Zg Rw56 f4 b0 c6 hO.inM (fun g hg hq => hO.apart g hq (zn hg));have b6 := zw b0;refine za (w' := f5) (sv c7 c8 c9) (zJ rfl rfl (f7 _)) ?_;have hO := hO.fr1.fr1;have h0 := h0.mt b4 hO b6;have h1 := h1.mt b4 hO b6;have b1 := b1.mt b4 hO b6;have hC := hC.st b4 hO b6;have hO := hO.eat b4 f8 (zu d0) d0.fpl;refine ax rfl (zb (zh (mi rfl (za _ (yad rfl rfl) (ai rfl (zb ?_))))));cases hs;exact ⟨_,a1,c7,c8,c9,f6,zF 25 ⟨rfl,rfl,rfl,congrArg (Value.int .i64) hw,trivial⟩,hC,hO,hK,h0,h1,d0⟩
 ·exact ⟨_,b8,(some ⟨b2,0,none⟩),0,0,e0,fr_m 25 rfl,hC,hO,hK,h0,h1,e2⟩
 cases o38 with
 | nx _ => trivial
 | rt r_ =>
  have hs := zr hs;intro f9 d8 hK;cases hs;exact hK
 | br s34 =>
  have hs := zq hs;rintro f9 a0 ⟨σ,a6,a7,a8,a9,b9,rfl,hC,hO,hK,h0,h1,g0⟩;refine c_sr (ms rfl (ax rfl (zb (wp_ret ?_))));cases hs;obtain ⟨g4,g5,g6,g1,hO,g2⟩ := Zm (Frz.os (Frz.rs Frz.int)) g0 hO;have hK := hK.trans g1;exact ⟨_,a7,a8,a9,fr_m 25 rfl,hC,(Keeps.out hK g2)⟩

theorem Bd85 : zK Tryz.prog 85 := zP Tryz.func85 (by kernel_rfl) rfl

def vK (M : Nat → Prop) (w0 : World) (r : (List Int) × Bool) (a : Act) (w : World) : Prop :=
  ∃ σ ra0 rn0 rc0 rf0,a = fr 37 (ovl σ [(4,(sv ra0 rn0 rc0)),(5,(.bool r.2))]) ∧ Chg [] w0 w ∧ (RT.os 3 ri).val M w (sv ra0 rn0 rc0) r.1 rf0 ∧ Own (Nw w0 []) (fun _ => True) w (rf0 ++ [])
def ZC (list : List Int) (n : Int) : Option ((List Int) × Bool) :=
  (yR list).bind fun r3 =>
  (iter (S := Int × (List Int)) (R := (List Int) × Bool) (fun s30 =>
  (bif (decide (0 ≤ s30.1)) then (idx s30.2 s30.1).bind fun x39 =>
  (bif (decide (x39 < (w64 (n - 1)))) then (idx s30.2 s30.1).bind fun x42 =>
  (idx s30.2 s30.1).bind fun x44 =>
  some (.rt (List.set s30.2 (Int.toNat s30.1) (w64 (x42 + 1)),true)) else (idx s30.2 s30.1).bind fun x47 =>
  some (.nx (w64 (s30.1 - 1),List.set s30.2 (Int.toNat s30.1) 0))) else some (.br (s30.1,s30.2)))) FU (w64 ((r3.length : Int) - 1),r3)).bind fun o34 => after o34 (fun r_ => some r_) (fun s30 =>
  some (s30.2,false))
theorem vs (list : List Int) (n : Int) (h0 : rl.val M w (sv pa0 pn0 pc0) list []) (hM : Hm w M) {r : (List Int) × Bool} (hs : ZC list n = some r) :
    Gives Tryz.prog 91 [(sv pa0 pn0 pc0),(iv n)] w (fun v w' => ∃ ra0 rn0 rc0 rf0,v = (.tuple #[(sv ra0 rn0 rc0),(.bool r.2)]) ∧ Chg [] w w' ∧ (RT.os 3 ri).val M w' (sv ra0 rn0 rc0) r.1 rf0 ∧ Own (Nw w []) (fun _ => True) w' (rf0 ++ [])) := by
 refine zx Tryz.func91 rfl Tryz.ntmps91 (nl rfl) ?_;obtain ⟨hO,hC⟩ := st0 hM;unfold ZC at hs;refine wp_k (K := (vK M w r)) (by rintro _ _ ⟨σ,ra0,rn0,rc0,rf0,rfl,hrest⟩; exact WN Tryz.results91 (zH rfl) (zH rfl) ⟨ra0,rn0,rc0,rf0,rfl,hrest⟩) (c_sr (ax rfl (ab rfl (zb (c_sr (ms rfl ?_))))));obtain ⟨r3,c1,hs⟩ := bq hs;refine zC Bd85 rfl (Xj (M := M) list h0 hO.fut c1) ?_;rintro _ f0 ⟨a0,a1,a2,b2,rfl,a7,b3,c2⟩;obtain ⟨h0,hC⟩ := xt2 a7 h0 hC;have hO := Own.join0 hO a7 c2;have hO := hO.perm (R := b2 ++ []) (by simp);refine ax rfl (zb (ze (c_sr (ms rfl (za _ (zt Sl48 (yD b3) rfl) (za _ (ysu rfl rfl) (ai rfl (zb ?_))))))));obtain ⟨o34,c3,hs⟩ := bq hs;refine wp_block (ZG (id := 0) (I := fun s30 a a4 => ∃ σ a5,a = fr 37 (ovl σ [(1,(iv n)),(6,(sv a0 a1 a2)),(7,(iv s30.1))]) ∧ Chg [] w a4 ∧ Own (Nw w []) M a4 (a5 ++ []) ∧ (RT.os 3 ri).val M a4 (sv a0 a1 a2) s30.2 a5) (J := fun s30 a a4 => ∃ σ a6,a = fr 37 (ovl σ [(6,(sv a0 a1 a2))]) ∧ Chg [] w a4 ∧ Own (Nw w []) M a4 (a6 ++ []) ∧ (RT.os 3 ri).val M a4 (sv a0 a1 a2) s30.2 a6) (K := (vK M w)) ?_ FU (w64 ((r3.length : Int) - 1),r3) o34 _ _ ?_ c3 ?_)
 ·rintro s30 o34 a a4 ⟨σ,a5,rfl,hC,hO,a3⟩ hs;refine ze (c_sr (mi rfl (za _ (WU rfl rfl) (zb ?_))));rcases zm hs with ⟨a8,hs⟩ | ⟨a8,hs⟩
  ·refine zl (cb a8) (wp_skip (ze (wp_block (ze (c_sr (ms rfl (mi rfl ?_)))))));obtain ⟨x39,c4,hs⟩ := bq hs;obtain ⟨c5,f1,f2,f3,c6,c7,f4⟩ := ZI Sl48 Sz3 a3 c4;refine za _ (ip c6 rfl rfl) (za (iv x39) (zo rfl ((zp Ag3 Sz3 c7) _ (Chg.refl _ _))) (mi rfl (za _ (ysu rfl rfl) (za _ (zA rfl rfl) (zb ?_)))));rcases zm hs with ⟨a9,hs⟩ | ⟨a9,hs⟩
   ·refine zl (cb a9) (c_sr (ms rfl (mi rfl (ms rfl (mi rfl ?_)))));obtain ⟨x42,c8,hs⟩ := bq hs;obtain ⟨c9,f5,f6,f7,d0,d1,f8⟩ := ZI Sl48 Sz3 a3 c8;refine za _ (ip d0 rfl rfl) (za (iv x42) (zo rfl ((zp Ag3 Sz3 d1) _ (Chg.refl _ _))) (za _ (yad rfl rfl) ?_));obtain ⟨x44,d2,hs⟩ := bq hs;obtain ⟨b4,f9,b5,d3,d4,g0,g1⟩ := ZI Sl48 Sz3 a3 d2;refine za _ (ip d4 rfl rfl) ?_;obtain ⟨d5,d6,d7,b6,d8,b0⟩ := YI (P := Tryz.prog) (c' := [(iv (w64 (x42 + 1)))]) b5 a3 d3 (fun g hg => hO.inM g (zw a3 g (by simpa using hg))) ⟨rfl,rfl⟩ List.nodup_nil (fun _ h => nomatch h) (fun _ h => .inl h);have d9 : ∀ q ∈ [b4],q ∈ a5 := fun q hq => zw a3 q (by rw [b5]; exact hq)
    refine zS (w' := d5) (zL rfl rfl (d7 _ _ rfl Sz3)) ?_;have hC := hC.st b6 hO d9;have hO := hO.grow b6 (fun q hq => .inl ((d8 q hq).resolve_right (fun h => nomatch h))) (zu b0) b0.fpl;refine zb (c_sr (ms rfl (ax rfl (ab rfl (zb (wp_ret ?_))))));cases hs;exact ⟨_,a0,a1,a2,d6,fr_m 37 rfl,hC,b0,hO.top⟩
   refine zk (cb a9) (wp_skip (zh (ms rfl (mi rfl ?_))));obtain ⟨x47,e0,hs⟩ := bq hs;obtain ⟨b7,g2,b8,e1,e2,g3,g4⟩ := ZI Sl48 Sz3 a3 e0;refine za _ (ip e2 rfl rfl) ?_;obtain ⟨e3,e4,e5,b9,e6,b1⟩ := YI (P := Tryz.prog) (c' := [(iv 0)]) b8 a3 e1 (fun g hg => hO.inM g (zw a3 g (by simpa using hg))) ⟨rfl,rfl⟩ List.nodup_nil (fun _ h => nomatch h) (fun _ h => .inl h);have e7 : ∀ q ∈ [b7],q ∈ a5 := fun q hq => zw a3 q (by rw [b8]; exact hq)
   refine zS (w' := e3) (zL rfl rfl (e5 _ _ rfl Sz3)) ?_;have hC := hC.st b9 hO e7;have hO := hO.grow b9 (fun q hq => .inl ((e6 q hq).resolve_right (fun h => nomatch h))) (zu b1) b1.fpl;refine zb (zh (mi rfl (za _ (ysu rfl rfl) (ai rfl (zb ?_)))));cases hs;exact ⟨_,e4,fr_m 37 rfl,hC,hO,b1⟩
  refine zk (cb a8) (wp_exit ?_);cases hs;exact ⟨rfl,_,a5,fr_m 37 rfl,hC,hO,a3⟩
 ·exact ⟨_,b2,fr_m 37 rfl,hC,hO,b3⟩
 cases o34 with
 | nx _ => trivial
 | rt r_ =>
  have hs := zr hs;intro e8 c0 hK;cases hs;exact hK
 | br s30 =>
  have hs := zq hs;rintro e8 a4 ⟨σ,a6,rfl,hC,hO,e9⟩;refine c_sr (ms rfl (ax rfl (ab rfl (zb (wp_ret ?_)))));cases hs;exact ⟨_,a0,a1,a2,a6,fr_m 37 rfl,hC,e9,hO.top⟩

theorem Bd86 : zK Tryz.prog 86 := zP Tryz.func86 (by kernel_rfl) rfl

theorem Bd87 : zK Tryz.prog 87 := zP Tryz.func87 (by kernel_rfl) rfl

theorem Bd88 : zK Tryz.prog 88 := zP Tryz.func88 (by kernel_rfl) rfl

theorem Bd89 : zK Tryz.prog 89 := zP Tryz.func89 (by kernel_rfl) rfl

def XP (M : Nat → Prop) (w0 : World) (r : tM) (a : Act) (w : World) : Prop :=
  ∃ σ ra0 rn0 rc0,a = fr 25 (ovl σ [(4,(sv ra0 rn0 rc0))]) ∧ Chg [] w0 w ∧ rm.val (Past M w0 w) w (sv ra0 rn0 rc0) r []
def ZK (line : List (List Int)) (numbers : List Int) : Option ((List (List Int))) :=
  (forC (S := (List (List Int))) (R := (List (List Int))) (fun k36 s34 =>
  (idx numbers k36).bind fun x46 =>
  (idx line x46).bind fun x48 =>
  (app s34 ([x48])).bind fun y55 =>
  some (.nx y55)) 0 (numbers.length : Int) ([])).bind fun o38 => after o38 (fun r_ => some r_) (fun s34 =>
  some s34)
theorem vn {pf0 : List Nat} (line : tM) (numbers : List Int) (h0 : (RT.os 48 rl).val M w (sv pa0 pn0 pc0) line pf0) (h1 : rl.val M w (sv pa1 pn1 pc1) numbers []) (hM : Hm w M) {r : tM} (hs : ZK line numbers = some r) :
    Gives Tryz.prog 90 [(sv pa0 pn0 pc0),(sv pa1 pn1 pc1)] w (fun v w' => ∃ ra0 rn0 rc0,v = (sv ra0 rn0 rc0) ∧ Chg [] w w' ∧ rm.val (Past M w w') w' (sv ra0 rn0 rc0) r []) := by
 refine zx Tryz.func90 rfl Tryz.ntmps90 (nl rfl) ?_;have hO := Own.start (N := Nw w []) hM Nw.fut;have d7 := h0.fpl;have hC := Chg.refl [] w;unfold ZK at hs;refine wp_k (K := (XP M w r)) (by rintro _ _ ⟨σ,ra0,rn0,rc0,rfl,hrest⟩; exact Zd Tryz.results90 (zH rfl) ⟨ra0,rn0,rc0,rfl,hrest⟩) (c_sr (ax rfl (zb (c_sr ?_))));obtain ⟨d0,b2,d9,d1,b6,d2⟩ := zg w [] 48;refine za (w' := d0) (sv (some ⟨b2,0,none⟩) 0 0) (zy rfl (by rw [d9,d1]; kernel_rfl)) ?_;obtain ⟨h0,h1,hC⟩ := xt3 b6 h0 h1 hC;have hO := hO.new1 b6 d1 d2.lt;have b7 := os0 (r := (RT.os 3 ri)) (M := M) d2;refine ax rfl (zb (ze (c_sr (ai rfl (zb ?_)))));obtain ⟨b8,e0,d3,e1,hO,e2⟩ := Zj (Frz.os Frz.int) b7 hO;obtain ⟨h0,h1⟩ := su2 d3 h0 h1;have hK := e1;obtain ⟨o38,e3,hs⟩ := bq hs;refine wp_block (zU (id := 0) (numbers.length : Int) (I := fun k36 s34 a a0 => ∃ σ a1 a3 a4 a5 b3,a = fr 25 (ovl σ [(0,(sv pa0 pn0 pc0)),(1,(sv pa1 pn1 pc1)),(5,(sv a3 a4 a5)),(6,(iv k36))]) ∧ Chg [] w a0 ∧ Own (Nw w []) a1 a0 (b3 ++ []) ∧ Keeps w M a1 ∧ (RT.os 48 rl).val a1 a0 (sv pa0 pn0 pc0) line pf0 ∧ rl.val a1 a0 (sv pa1 pn1 pc1) numbers [] ∧ (RT.os 48 rl).val a1 a0 (sv a3 a4 a5) s34 b3) (J := fun s34 a a0 => ∃ σ a6 a7 a8 a9 b9,a = fr 25 (ovl σ [(5,(sv a7 a8 a9))]) ∧ Chg [] w a0 ∧ Own (Nw w []) a6 a0 (b9 ++ []) ∧ Keeps w M a6 ∧ (RT.os 48 rl).val a6 a0 (sv pa0 pn0 pc0) line pf0 ∧ rl.val a6 a0 (sv pa1 pn1 pc1) numbers [] ∧ (RT.os 48 rl).val a6 a0 (sv a7 a8 a9) s34 b9) (K := (XP M w)) ?_ ?_ 0 [] o38 _ _ ?_ e3 ?_)
 ·rintro k36 s34 a a0 ⟨σ,a1,a3,a4,a5,b3,rfl,hC,hO,hK,h0,h1,b0⟩ hlt;refine ze (c_sr (mi rfl (ms rfl (za _ (zt Sl48 (zB h1) rfl) (za _ (zA rfl rfl) (zb (zk (df hlt) (wp_exit ?_))))))));exact ⟨rfl,_,a1,a3,a4,a5,b3,fr_m 25 rfl,hC,hO,hK,h0,h1,b0⟩
 ·rintro k36 s34 o38 a a0 ⟨σ,a1,a3,a4,a5,b3,rfl,hC,hO,hK,h0,h1,b0⟩ hlt hw hs;refine ze (c_sr (mi rfl (ms rfl (za _ (zt Sl48 (zB h1) rfl) (za _ (zA rfl rfl) (zb (zl (dt hlt) (wp_skip (ze (wp_block (zh (ms rfl (ms rfl (ms rfl (mi rfl ?_)))))))))))))));obtain ⟨x46,e4,hs⟩ := bq hs;obtain ⟨e5,e6,e7,c0⟩ := zI Sl48 Sz3 h1 e4;refine za _ (ip e7 rfl rfl) (za (iv x46) (zo rfl ((zp Ag3 Sz3 c0) _ (Chg.refl _ _))) ?_);obtain ⟨x48,e8,hs⟩ := bq hs;obtain ⟨e9,g4,g5,g6,f0,f1,g7⟩ := ZI Sl56 Sz48 h0 e8;have f2 := vV Rd.rs f1;refine za _ (ip f0 rfl rfl) ?_;obtain ⟨g8,f3,b1⟩ := zT Ag48 Sz48 (fun _ => rfl) f2;obtain ⟨c1,c2,c3,rfl⟩ := Zw b1;refine za (sv c1 c2 c3) (zo rfl (f3 _ (Chg.refl _ _))) ?_;obtain ⟨d4,c4,f4,d5,a2,d6⟩ := zg a0 [(sv c1 c2 c3)] 48;refine za (w' := d4) (sv (some ⟨c4,0,none⟩) 1 1) (zy rfl (by rw [f4,d5]; kernel_rfl)) ?_;obtain ⟨h0,h1,b0,b1,c0,hC⟩ := xt6 a2 h0 h1 b0 b1 c0 hC;have hO := hO.new1 a2 d5 d6.lt;have c5 := zQ (r := rl) (M := a1) (css := [[(sv c1 c2 c3)]]) (fps := [([] : List Nat)]) (xs := ([x48] : tM)) d6 ⟨(ZX b1),trivial⟩ (nl rfl) nd1;have c5 : (RT.os 48 rl).val a1 d4 (sv (some ⟨c4,0,none⟩) 1 1) [x48] [c4] := c5;obtain ⟨y55,f5,hs⟩ := bq hs;have hO := hO.fr1;obtain ⟨c6,c7,c8,f6,f7,f8,b4,f9,c9⟩ := Zg Rw56 f5 b0 c5 hO.inM (fun g hg hq => hO.apart g hq (zn hg));have b5 := zw b0;refine za (w' := f6) (sv c6 c7 c8) (zJ rfl rfl (f8 _)) ?_;have hO := hO.fr1.fr1;have h0 := h0.mut b4 (fun g hg => hO.inM g (b5 g hg)) (fun g hg e => Nat.lt_irrefl _ (Nat.lt_of_lt_of_le (d7 g e) ((hO.inN g (b5 g hg)).resolve_left (fun h => nomatch h))));have h1 := h1.mt b4 hO b5;have b1 := b1.mt b4 hO b5;have hC := hC.st b4 hO b5;have hO := hO.eat b4 f9 (zu c9) c9.fpl;refine ax rfl (zb (zh (mi rfl (za _ (yad rfl rfl) (ai rfl (zb ?_))))));cases hs;exact ⟨_,a1,c6,c7,c8,f7,zF 25 ⟨rfl,rfl,rfl,congrArg (Value.int .i64) hw,trivial⟩,hC,hO,hK,h0,h1,c9⟩
 ·exact ⟨_,b8,(some ⟨b2,0,none⟩),0,0,e0,fr_m 25 rfl,hC,hO,hK,h0,h1,e2⟩
 cases o38 with
 | nx _ => trivial
 | rt r_ =>
  have hs := zr hs;intro g0 d8 hK;cases hs;exact hK
 | br s34 =>
  have hs := zq hs;rintro g0 a0 ⟨σ,a6,a7,a8,a9,b9,rfl,hC,hO,hK,h0,h1,g1⟩;refine c_sr (ms rfl (ax rfl (zb (wp_ret ?_))));cases hs;obtain ⟨g9,h2,h3,g2,hO,g3⟩ := Zm (Frz.os (Frz.rs Frz.int)) g1 hO;have hK := hK.trans g2;exact ⟨_,a7,a8,a9,fr_m 25 rfl,hC,(Keeps.out hK g3)⟩

theorem Bd90 : zK Tryz.prog 90 := zP Tryz.func90 (by kernel_rfl) rfl

theorem Bd91 : zK Tryz.prog 91 := zP Tryz.func91 (by kernel_rfl) rfl

def Yk (M : Nat → Prop) (w0 : World) (r : tM × Bool) (a : Act) (w : World) : Prop :=
  ∃ σ ra0 rn0 rc0,a = fr 172 (ovl σ [(6,(sv ra0 rn0 rc0)),(7,(.bool r.2))]) ∧ Chg [] w0 w ∧ rm.val (Past M w0 w) w (sv ra0 rn0 rc0) r.1 []
def ZP (a_ : Int × (List (Int × (List Int)))) (k : Int) (gens : List (List Int)) : Option ((List (List Int)) × Bool) :=
  (xM (a_.1,a_.2)).bind fun r9 =>
  (forC (S := (List (List Int))) (R := (List (List Int)) × Bool) (fun k28 s26 =>
  (idx gens k28).bind fun x36 =>
  (yR x36).bind fun r41 =>
  (app s26 ([r41])).bind fun y46 =>
  some (.nx y46)) 0 (gens.length : Int) ([])).bind fun o30 => after o30 (fun r_ => some r_) (fun s26 =>
  (forC (S := (List (List Int))) (R := (List (List Int)) × Bool) (fun k66 s64 =>
  (idx a_.2 k66).bind fun x74 =>
  (bif (x74.1 == 0) then (ZA (a_.1,a_.2) k66 ([]) k).bind fun r81 =>
  (app s64 ([r81])).bind fun y86 =>
  some (.nx y86) else some (.nx s64))) 0 (a_.2.length : Int) s26).bind fun o68 => after o68 (fun r_ => some r_) (fun s64 =>
  (iter (S := (List (List Int)) × (List (List Int)) × Int) (R := (List (List Int)) × Bool) (fun s249 =>
  (bif (decide (s249.2.2 < (s64.length : Int))) then (idx s64 s249.2.2).bind fun x266 =>
  (Zi s249.1 x266).bind fun r271 =>
  (bif (!r271.2) then (idx s64 s249.2.2).bind fun x273 =>
  (yb s249.1 x273).bind fun r278 =>
  (idx s64 s249.2.2).bind fun x280 =>
  (app s249.2.1 ([x280])).bind fun y287 =>
  some (.nx (r278,y287,w64 (s249.2.2 + 1))) else some (.nx (s249.1,s249.2.1,w64 (s249.2.2 + 1)))) else some (.br (s249.1,s249.2.1,s249.2.2)))) FU ([],[],0)).bind fun o253 => after o253 (fun r_ => some r_) (fun s249 =>
  (iter (S := (List (List Int)) × (List (List Int)) × Int) (R := (List (List Int)) × Bool) (fun s2566 =>
  (bif ((decide (s2566.2.2 < (s2566.2.1.length : Int))) && (decide ((s2566.2.1.length : Int) ≤ r9))) then (forC (S := (List (List Int)) × (List (List Int))) (R := (List (List Int)) × Bool) (fun k3334 s3332 =>
  (idx a_.2 k3334).bind fun x3359 =>
  (idx a_.2 k3334).bind fun x3362 =>
  (mks x3359.1 (0 : Int)).bind fun y3366 =>
  (iter (S := (List (List Int)) × (List (List Int)) × (List Int) × Bool) (R := (List (List Int)) × Bool) (fun s3591 =>
  (bif (s3591.2.2.2 && (decide ((s3591.2.1.length : Int) ≤ r9))) then (yU s3591.2.2.1 s2566.2.2).bind fun r3617 =>
  (bif r3617 then (ZK s3591.2.1 s3591.2.2.1).bind fun r3695 =>
  (ZA (a_.1,a_.2) k3334 r3695 k).bind fun r3698 =>
  (Zi s3591.1 r3698).bind fun r3701 =>
  (bif (!r3701.2) then (yb s3591.1 r3698).bind fun r3705 =>
  (app s3591.2.1 ([r3698])).bind fun y3710 =>
  some (r3705,y3710,s3591.2.2.1) else some (s3591.1,s3591.2.1,s3591.2.2.1)) else some (s3591.1,s3591.2.1,s3591.2.2.1)).bind fun s3674 =>
  (ZC s3674.2.2 (w64 (s2566.2.2 + 1))).bind fun r3714 =>
  some (.nx (s3674.1,s3674.2.1,r3714.1,r3714.2)) else some (.br (s3591.1,s3591.2.1,s3591.2.2.1,s3591.2.2.2)))) FU (s3332.1,s3332.2,y3366,(decide (0 < x3362.1)))).bind fun o3595 => after o3595 (fun r_ => some (.rt r_)) (fun s3591 =>
  some (.nx (s3591.1,s3591.2.1)))) 0 (a_.2.length : Int) (s2566.1,s2566.2.1)).bind fun o3336 => after o3336 (fun r_ => some (.rt r_)) (fun s3332 =>
  some (.nx (s3332.1,s3332.2,w64 (s2566.2.2 + 1)))) else some (.br (s2566.1,s2566.2.1,s2566.2.2)))) FU (s249.1,s249.2.1,0)).bind fun o2570 => after o2570 (fun r_ => some r_) (fun s2566 =>
  some (s2566.1,(decide ((s2566.1.length : Int) ≤ r9)))))))
theorem Zo (a_ : tA) (k : Int) (gens : tM) (h0 : rp.val M w (sv pa0 pn0 pc0) a_.2 []) (h1 : rm.val M w (sv pa1 pn1 pc1) gens []) (hM : Hm w M) {r : tM × Bool} (hs : ZP a_ k gens = some r) :
    Gives Tryz.prog 49 [(.agg #[(iv a_.1),(sv pa0 pn0 pc0)]),(iv k),(sv pa1 pn1 pc1)] w (fun v w' => ∃ ra0 rn0 rc0,v = (.tuple #[(sv ra0 rn0 rc0),(.bool r.2)]) ∧ Chg [] w w' ∧ rm.val (Past M w w') w' (sv ra0 rn0 rc0) r.1 []) := by
 refine zx Tryz.func49 rfl Tryz.ntmps49 (nl rfl) ?_;obtain ⟨hO,hC⟩ := st0 hM;unfold ZP at hs;refine wp_k (K := (Yk M w r)) (by rintro _ _ ⟨σ,ra0,rn0,rc0,rfl,hrest⟩; exact WN Tryz.results49 (zH rfl) (zH rfl) ⟨ra0,rn0,rc0,rfl,hrest⟩) (c_sr ?_);obtain ⟨z4,a1,F0,z5,o6,a0⟩ := zg w [(iv a_.1),(sv pa0 pn0 pc0)] 30;refine za (w' := z4) (pq a1 0) (Zx rfl (by rw [F0,z5]; kernel_rfl)) ?_;obtain ⟨h0,h1,hC⟩ := xt3 o6 h0 h1 hC;have hO := hO.new1 o6 z5 a0.lt;refine ax rfl (ab rfl (zb (c_sr ?_)));obtain ⟨t1,a6,F1,z6,n4,z7⟩ := zg z4 [] 48;refine za (w' := t1) (sv (some ⟨a6,0,none⟩) 0 0) (zy rfl (by rw [F1,z6]; kernel_rfl)) ?_;obtain ⟨h0,h1,a0,hC⟩ := xt4 n4 h0 h1 a0 hC;have hO := hO.new1 n4 z6 z7.lt;have a2 := os0 (r := (RT.os 3 ri)) (M := M) z7;obtain ⟨z8,a7,F2,z9,k6,A0⟩ := zg t1 [] 48;refine za (w' := z8) (sv (some ⟨a7,0,none⟩) 0 0) (zy rfl (by rw [F2,z9]; kernel_rfl)) ?_;obtain ⟨h0,h1,a0,a2,hC⟩ := xt5 k6 h0 h1 a0 a2 hC;have hO := hO.new1 k6 z9 A0.lt;have a3 := os0 (r := (RT.os 3 ri)) (M := M) A0;refine za _ (ldw rfl Ag30 a0 Sz30) ?_;obtain ⟨r9,F3,hs⟩ := bq hs;refine zC Bd86 rfl (zan (M := M) (a_.1,a_.2) h0 hO.fut F3) ?_;rintro _ F4 ⟨rfl,h6⟩;obtain ⟨h0,h1,a0,a2,a3,hC,hO⟩ := xt7 h6 h0 h1 a0 a2 a3 hC hO;refine ax rfl (ax rfl (ai rfl (zb (c_sr ?_))));obtain ⟨A1,k7,F5,A2,h7,A3⟩ := zg F4 [] 48;refine za (w' := A1) (sv (some ⟨k7,0,none⟩) 0 0) (zy rfl (by rw [F5,A2]; kernel_rfl)) ?_;obtain ⟨h0,h1,a0,a2,a3,hC⟩ := xt6 h7 h0 h1 a0 a2 a3 hC;have hO := hO.new1 h7 A2 A3.lt;have t2 := os0 (r := (RT.os 3 ri)) (M := M) A3;refine ax rfl (zb (ze (c_sr (ai rfl (zb ?_)))));obtain ⟨o30,F6,hs⟩ := bq hs;refine wp_block (zU (id := 0) (gens.length : Int) (I := fun k28 s26 a b0 => ∃ σ k8 k9 l0 h8,a = fr 172 (ovl σ [(1,(iv k)),(2,(sv pa1 pn1 pc1)),(3,(pq a1 0)),(8,(sv (some ⟨a6,0,none⟩) 0 0)),(9,(sv (some ⟨a7,0,none⟩) 0 0)),(10,(iv r9)),(11,(sv k8 k9 l0)),(12,(iv k28))]) ∧ Chg [] w b0 ∧ Own (Nw w []) M b0 (h8 ++ ([a7] ++ ([a6] ++ ([a1] ++ [])))) ∧ rp.val M b0 (sv pa0 pn0 pc0) a_.2 [] ∧ rm.val M b0 (sv pa1 pn1 pc1) gens [] ∧ BoxV b0 a1 30 [(iv a_.1),(sv pa0 pn0 pc0)] ∧ (RT.os 48 (RT.os 3 ri)).val M b0 (sv (some ⟨a6,0,none⟩) 0 0) [] [a6] ∧ (RT.os 48 (RT.os 3 ri)).val M b0 (sv (some ⟨a7,0,none⟩) 0 0) [] [a7] ∧ (RT.os 48 (RT.os 3 ri)).val M b0 (sv k8 k9 l0) s26 h8) (J := fun s26 a b0 => ∃ σ o7 o8 o9 p0,a = fr 172 (ovl σ [(1,(iv k)),(3,(pq a1 0)),(8,(sv (some ⟨a6,0,none⟩) 0 0)),(9,(sv (some ⟨a7,0,none⟩) 0 0)),(10,(iv r9)),(11,(sv o7 o8 o9))]) ∧ Chg [] w b0 ∧ Own (Nw w []) M b0 (p0 ++ ([a7] ++ ([a6] ++ ([a1] ++ [])))) ∧ rp.val M b0 (sv pa0 pn0 pc0) a_.2 [] ∧ rm.val M b0 (sv pa1 pn1 pc1) gens [] ∧ BoxV b0 a1 30 [(iv a_.1),(sv pa0 pn0 pc0)] ∧ (RT.os 48 (RT.os 3 ri)).val M b0 (sv (some ⟨a6,0,none⟩) 0 0) [] [a6] ∧ (RT.os 48 (RT.os 3 ri)).val M b0 (sv (some ⟨a7,0,none⟩) 0 0) [] [a7] ∧ (RT.os 48 (RT.os 3 ri)).val M b0 (sv o7 o8 o9) s26 p0) (K := (Yk M w)) ?_ ?_ 0 [] o30 _ _ ?_ F6 ?_)
 ·rintro k28 s26 a b0 ⟨σ,k8,k9,l0,h8,rfl,hC,hO,h0,h1,a0,a2,a3,f8⟩ hlt;refine ze (c_sr (mi rfl (ms rfl (za _ (zt Sl56 (zB h1) rfl) (za _ (zA rfl rfl) (zb (zk (df hlt) (wp_exit ?_))))))));have hO := hO.fr3.fr3.fr3.fr3;exact ⟨rfl,_,k8,k9,l0,h8,fr_m 172 rfl,hC,hO,h0,h1,a0,a2,a3,f8⟩
 ·rintro k28 s26 o30 a b0 ⟨σ,k8,k9,l0,h8,rfl,hC,hO,h0,h1,a0,a2,a3,f8⟩ hlt hw hs;refine ze (c_sr (mi rfl (ms rfl (za _ (zt Sl56 (zB h1) rfl) (za _ (zA rfl rfl) (zb (zl (dt hlt) (wp_skip (ze (wp_block (zh (ms rfl (ms rfl (mi rfl ?_))))))))))))));obtain ⟨x36,F7,hs⟩ := bq hs;obtain ⟨F8,F9,G0,n5⟩ := zI Sl56 Sz48 h1 F7;refine za _ (ip G0 rfl rfl) ?_;obtain ⟨Q6,G1,f9⟩ := zT Ag48 Sz48 (fun _ => rfl) n5;obtain ⟨G2,G3,G4,rfl⟩ := Zw f9;refine za (sv G2 G3 G4) (zo rfl (G1 _ (Chg.refl _ _))) ?_;obtain ⟨r41,G5,hs⟩ := bq hs;refine zC Bd85 rfl (Xj (M := M) x36 f9 hO.fut G5) ?_;rintro _ G6 ⟨A4,A5,A6,p1,rfl,c7,t3,G7⟩;obtain ⟨h0,h1,a0,a2,a3,f8,f9,n5⟩ := xt8 c7 h0 h1 a0 a2 a3 f8 f9 n5;have hC := hC.ext c7;have hO := Own.join0 hO c7 G7;have hO := hO.perm (R := p1 ++ (h8 ++ ([a7] ++ ([a6] ++ ([a1] ++ []))))) (by simp);obtain ⟨A7,p2,G8,A8,c4,A9⟩ := zg G6 [(sv A4 A5 A6)] 48;refine za (w' := A7) (sv (some ⟨p2,0,none⟩) 1 1) (zy rfl (by rw [G8,A8]; kernel_rfl)) ?_;obtain ⟨h0,h1,a0,a2,a3,f8,f9,t3⟩ := xt8 c4 h0 h1 a0 a2 a3 f8 f9 t3;obtain ⟨n5,hC⟩ := xt2 c4 n5 hC;have hO := (hO.new1 c4 A8 A9.lt).perm (R := (p2 :: ((p1) ++ [])) ++ (h8 ++ ([a7] ++ ([a6] ++ ([a1] ++ []))))) (by simp);have G9 := hO.nd;have t4 := zQ (r := (RT.os 3 ri)) (M := M) (css := [[(sv A4 A5 A6)]]) (fps := [(p1 : List Nat)]) (xs := ([r41] : tM)) A9 ⟨(Zc t3),trivial⟩ (nl rfl) G9;have t4 : (RT.os 48 (RT.os 3 ri)).val M A7 (sv (some ⟨p2,0,none⟩) 1 1) [r41] (p2 :: ((p1) ++ [])) := t4;obtain ⟨y46,H0,hs⟩ := bq hs;have hO := hO.fr1;obtain ⟨t5,t6,t7,H1,H2,H3,g0,H4,t8⟩ := Zg Rw56 H0 f8 t4 hO.inM (fun g hg hq => hO.apart g hq (zn hg));have h9 := zw f8;refine za (w' := H1) (sv t5 t6 t7) (zJ rfl rfl (H3 _)) ?_;have hO := hO.fr1.fr1;have h0 := h0.mt g0 hO h9;have h1 := h1.mt g0 hO h9;have a0 := a0.ap g0 hO h9 (zd (zd (zd mS)));have a2 := a2.ma g0 hO h9 (fun _ e => (zd (zd (zn (e)))));have a3 := a3.ma g0 hO h9 (fun _ e => (zd (zn (e))));have f9 := f9.mt g0 hO h9;have hC := hC.st g0 hO h9;have hO := hO.eat g0 H4 (zu t8) t8.fpl;refine ax rfl (zb (zh (mi rfl (za _ (yad rfl rfl) (ai rfl (zb ?_))))));cases hs;have hO := hO.fr3.fr3.fr3.fr3;exact ⟨_,t5,t6,t7,H2,zF 172 ⟨rfl,rfl,rfl,rfl,rfl,rfl,rfl,congrArg (Value.int .i64) hw,trivial⟩,hC,hO,h0,h1,a0,a2,a3,t8⟩
 ·have hO := hO.fr3.fr3.fr3.fr3;exact ⟨_,(some ⟨k7,0,none⟩),0,0,[k7],fr_m 172 rfl,hC,hO,h0,h1,a0,a2,a3,t2⟩
 cases o30 with
 | nx _ => trivial
 | rt r_ =>
  have hs := zr hs;intro b8 k5 hK;cases hs;exact hK
 | br s26 =>
  have hs := zq hs;rintro b8 b0 ⟨σ,o7,o8,o9,p0,rfl,hC,hO,h0,h1,a0,a2,a3,H5⟩;refine ze (c_sr (ai rfl (zb ?_)));obtain ⟨o68,H6,hs⟩ := bq hs;refine wp_block (zU (id := 2) (a_.2.length : Int) (I := fun k66 s64 a b2 => ∃ σ i0 i1 i2 g1,a = fr 172 (ovl σ [(1,(iv k)),(3,(pq a1 0)),(8,(sv (some ⟨a6,0,none⟩) 0 0)),(9,(sv (some ⟨a7,0,none⟩) 0 0)),(10,(iv r9)),(11,(sv i0 i1 i2)),(13,(iv k66))]) ∧ Chg [] w b2 ∧ Own (Nw w []) M b2 (g1 ++ ([a7] ++ ([a6] ++ ([a1] ++ [])))) ∧ rp.val M b2 (sv pa0 pn0 pc0) a_.2 [] ∧ BoxV b2 a1 30 [(iv a_.1),(sv pa0 pn0 pc0)] ∧ (RT.os 48 (RT.os 3 ri)).val M b2 (sv (some ⟨a6,0,none⟩) 0 0) [] [a6] ∧ (RT.os 48 (RT.os 3 ri)).val M b2 (sv (some ⟨a7,0,none⟩) 0 0) [] [a7] ∧ (RT.os 48 (RT.os 3 ri)).val M b2 (sv i0 i1 i2) s64 g1) (J := fun s64 a b2 => ∃ σ c8 c9 d0 t9,a = fr 172 (ovl σ [(1,(iv k)),(3,(pq a1 0)),(8,(sv (some ⟨a6,0,none⟩) 0 0)),(9,(sv (some ⟨a7,0,none⟩) 0 0)),(10,(iv r9)),(11,(sv c8 c9 d0))]) ∧ Chg [] w b2 ∧ Own (Nw w []) M b2 (t9 ++ ([a7] ++ ([a6] ++ ([a1] ++ [])))) ∧ rp.val M b2 (sv pa0 pn0 pc0) a_.2 [] ∧ BoxV b2 a1 30 [(iv a_.1),(sv pa0 pn0 pc0)] ∧ (RT.os 48 (RT.os 3 ri)).val M b2 (sv (some ⟨a6,0,none⟩) 0 0) [] [a6] ∧ (RT.os 48 (RT.os 3 ri)).val M b2 (sv (some ⟨a7,0,none⟩) 0 0) [] [a7] ∧ (RT.os 48 (RT.os 3 ri)).val M b2 (sv c8 c9 d0) s64 t9) (K := (Yk M w)) ?_ ?_ 0 s26 o68 _ _ ?_ H6 ?_)
  ·rintro k66 s64 a b2 ⟨σ,i0,i1,i2,g1,rfl,hC,hO,h0,a0,a2,a3,c5⟩ hlt;refine ze (c_sr (mi rfl (za (pq a1 1) (zj rfl ZH) (za _ (ld rfl Ag28 Sz28 a0 rfl) (za _ (zt Sl28 (zB h0) rfl) (za _ (zA rfl rfl) (zb (zk (df hlt) (wp_exit ?_)))))))));have hO := hO.fr3.fr3.fr3.fr3;exact ⟨rfl,_,i0,i1,i2,g1,fr_m 172 rfl,hC,hO,h0,a0,a2,a3,c5⟩
  ·rintro k66 s64 o68 a b2 ⟨σ,i0,i1,i2,g1,rfl,hC,hO,h0,a0,a2,a3,c5⟩ hlt hw hs;refine ze (c_sr (mi rfl (za (pq a1 1) (zj rfl ZH) (za _ (ld rfl Ag28 Sz28 a0 rfl) (za _ (zt Sl28 (zB h0) rfl) (za _ (zA rfl rfl) (zb (zl (dt hlt) (wp_skip (ze (wp_block (c_sr (za (pq a1 1) (zj rfl ZH) (za _ (ld rfl Ag28 Sz28 a0 rfl) (mi rfl ?_)))))))))))))));obtain ⟨x74,H7,hs⟩ := bq hs;obtain ⟨B0,B1,H8,H9⟩ := zI Sl28 Sz50 h0 H7;refine za _ (ip H8 rfl rfl) ?_;obtain ⟨I0,_⟩ := XH H9;refine za (.pointer (some ⟨B0,B1 + 0,none⟩)) (zj rfl yW) (za (iv x74.1) (zo rfl ((zp Ag3 Sz3 I0) _ (Chg.refl _ _))) (za (.bool (x74.1 == 0)) (xn rfl rfl) (zb ?_)));rcases zm hs with ⟨u0,hs⟩ | ⟨u0,hs⟩
   ·refine zl (cb u0) (zh (ms rfl (za _ (ldw rfl Ag30 a0 Sz30) (mi rfl ?_))));obtain ⟨B2,l1,I1,B3,i3,B4⟩ := zg b2 [] 48;refine za (w' := B2) (sv (some ⟨l1,0,none⟩) 0 0) (zy rfl (by rw [I1,B3]; kernel_rfl)) ?_;obtain ⟨h0,a0,a2,a3,c5,hC⟩ := xt6 i3 h0 a0 a2 a3 c5 hC;have hO := hO.new1 i3 B3 B4.lt;have e4 := os0 (r := (RT.os 3 ri)) (M := M) B4;refine mi rfl ?_;obtain ⟨r81,I2,hs⟩ := bq hs;refine zC Bd87 rfl (wd (M := (Less M [l1])) (a_.1,a_.2) k66 [] k (h0.sub Less.sub) (((Frz.os (Frz.os Frz.int))).val e4 Less.sub Less.not) hO.less.fut I2) ?_;rintro _ I3 ⟨B5,B6,B7,p3,rfl,g2,n6,I4⟩;obtain ⟨h0,a0,a2,a3,c5,e4,hC⟩ := xt7 g2 h0 a0 a2 a3 c5 e4 hC;have hO := Own.join0 hO g2 I4;have hO := hO.perm (R := p3 ++ ([l1] ++ (g1 ++ ([a7] ++ ([a6] ++ ([a1] ++ [])))))) (by simp);have n6 := n6.free (M' := M) (Free.os Free.int);obtain ⟨B8,p4,I5,B9,e5,C0⟩ := zg I3 [(sv B5 B6 B7)] 48;refine za (w' := B8) (sv (some ⟨p4,0,none⟩) 1 1) (zy rfl (by rw [I5,B9]; kernel_rfl)) ?_;obtain ⟨h0,a0,a2,a3,c5,e4,n6,hC⟩ := xt8 e5 h0 a0 a2 a3 c5 e4 n6 hC;have hO := (hO.new1 e5 B9 C0.lt).perm (R := (p4 :: ((p3) ++ [])) ++ ([l1] ++ (g1 ++ ([a7] ++ ([a6] ++ ([a1] ++ [])))))) (by simp);have I6 := hO.nd;have u1 := zQ (r := (RT.os 3 ri)) (M := M) (css := [[(sv B5 B6 B7)]]) (fps := [(p3 : List Nat)]) (xs := ([r81] : tM)) C0 ⟨(Zc n6),trivial⟩ (nl rfl) I6;have u1 : (RT.os 48 (RT.os 3 ri)).val M B8 (sv (some ⟨p4,0,none⟩) 1 1) [r81] (p4 :: ((p3) ++ [])) := u1;obtain ⟨y86,I7,hs⟩ := bq hs;have hO := hO.fr2;obtain ⟨u2,u3,u4,I8,I9,J0,i4,J1,u5⟩ := Zg Rw56 I7 c5 u1 hO.inM (fun g hg hq => hO.apart g hq (zn hg));have l2 := zw c5;refine za (w' := I8) (sv u2 u3 u4) (zJ rfl rfl (J0 _)) ?_;have hO := hO.fr1.fr1;have h0 := h0.mt i4 hO l2;have a0 := a0.ap i4 hO l2 (zd (zd (zd (zd mS))));have a2 := a2.ma i4 hO l2 (fun _ e => (zd (zd (zd (zn (e))))));have a3 := a3.ma i4 hO l2 (fun _ e => (zd (zd (zn (e)))));have e4 := e4.ma i4 hO l2 (fun _ e => (zd (zn (e))));have hC := hC.st i4 hO l2;have hO := hO.eat i4 J1 (zu u5) u5.fpl;refine ax rfl (zb (zh (mi rfl (za _ (yad rfl rfl) (ai rfl (zb ?_))))));cases hs;have hO := hO.fr1.drop.fr3.fr3.fr3.fr3;exact ⟨_,u2,u3,u4,I9,zF 172 ⟨rfl,rfl,rfl,rfl,rfl,rfl,congrArg (Value.int .i64) hw,trivial⟩,hC,hO,h0,a0,a2,a3,u5⟩
   refine zk (cb u0) (wp_skip (zh (mi rfl (za _ (yad rfl rfl) (ai rfl (zb ?_))))));cases hs;have hO := hO.fr3.fr3.fr3.fr3;exact ⟨_,i0,i1,i2,g1,zF 172 ⟨rfl,rfl,rfl,rfl,rfl,rfl,congrArg (Value.int .i64) hw,trivial⟩,hC,hO,h0,a0,a2,a3,c5⟩
  ·have hO := hO.fr3.fr3.fr3.fr3;exact ⟨_,o7,o8,o9,p0,fr_m 172 rfl,hC,hO,h0,a0,a2,a3,H5⟩
  cases o68 with
  | nx _ => trivial
  | rt r_ =>
   have hs := zr hs;intro b8 k5 hK;cases hs;exact hK
  | br s64 =>
   have hs := zq hs;rintro b8 b2 ⟨σ,c8,c9,d0,t9,rfl,hC,hO,h0,a0,a2,a3,n7⟩;refine ze (c_sr (ai rfl (zb ?_)));have hO := hO.fr2;obtain ⟨u6,Q7,u7,J2,hO,n8⟩ := Zm (Frz.os (Frz.os Frz.int)) a2 hO;obtain ⟨h0,a3,n7⟩ := su3 u7 h0 a3 n7;have hK := J2;have hO := hO.fr1;obtain ⟨u9,J3,v0,J4,hO,v1⟩ := Zj (Frz.os Frz.int) a3 hO;obtain ⟨h0,n8,n7⟩ := su3 v0 h0 n8 n7;have hK := hK.trans J4;have hO := hO.fr1;obtain ⟨p5,Q8,v2,J5,hO,b1⟩ := Zm (Frz.os (Frz.os Frz.int)) n7 hO;obtain ⟨h0,n8,v1⟩ := su3 v2 h0 n8 v1;have hK := hK.trans J5;obtain ⟨o253,J6,hs⟩ := bq hs;refine wp_block (ZG (id := 4) (I := fun s249 a b5 => ∃ σ a8 i5 i6 i7 l3 l4 l5 n9,a = fr 172 (ovl σ [(1,(iv k)),(3,(pq a1 0)),(8,(sv i5 i6 i7)),(9,(sv l3 l4 l5)),(10,(iv r9)),(11,(sv c8 c9 d0)),(14,(iv s249.2.2))]) ∧ Chg [] w b5 ∧ Own (Nw w []) a8 b5 (n9 ++ ([a1] ++ [])) ∧ Keeps w M a8 ∧ rp.val a8 b5 (sv pa0 pn0 pc0) a_.2 [] ∧ BoxV b5 a1 30 [(iv a_.1),(sv pa0 pn0 pc0)] ∧ rm.val a8 b5 (sv c8 c9 d0) s64 [] ∧ rm.val a8 b5 (sv i5 i6 i7) s249.1 [] ∧ (RT.os 48 rl).val a8 b5 (sv l3 l4 l5) s249.2.1 n9) (J := fun s249 a b5 => ∃ σ g3 p6 p7 p8 p9 q0 q1 q2,a = fr 172 (ovl σ [(1,(iv k)),(3,(pq a1 0)),(8,(sv p6 p7 p8)),(9,(sv p9 q0 q1)),(10,(iv r9))]) ∧ Chg [] w b5 ∧ Own (Nw w []) g3 b5 (q2 ++ ([a1] ++ [])) ∧ Keeps w M g3 ∧ rp.val g3 b5 (sv pa0 pn0 pc0) a_.2 [] ∧ BoxV b5 a1 30 [(iv a_.1),(sv pa0 pn0 pc0)] ∧ rm.val g3 b5 (sv c8 c9 d0) s64 [] ∧ rm.val g3 b5 (sv p6 p7 p8) s249.1 [] ∧ (RT.os 48 rl).val g3 b5 (sv p9 q0 q1) s249.2.1 q2) (K := (Yk M w)) ?_ FU ([],[],0) o253 _ _ ?_ J6 ?_)
   ·rintro s249 o253 a b5 ⟨σ,a8,i5,i6,i7,l3,l4,l5,n9,rfl,hC,hO,hK,h0,a0,b1,d1,c2⟩ hs;refine ze (c_sr (mi rfl (ms rfl (za _ (zt Sl56 (zB b1) rfl) (za _ (zA rfl rfl) (zb ?_))))));rcases zm hs with ⟨v3,hs⟩ | ⟨v3,hs⟩
    ·refine zl (cb v3) (wp_skip (ze (wp_block (c_sr (ms rfl (ms rfl (mi rfl ?_)))))));obtain ⟨x266,J7,hs⟩ := bq hs;obtain ⟨J8,J9,K0,v4⟩ := zI Sl56 Sz48 b1 J7;refine za _ (ip K0 rfl rfl) ?_;obtain ⟨Q9,K1,q3⟩ := zT Ag48 Sz48 (fun _ => rfl) v4;obtain ⟨K2,K3,K4,rfl⟩ := Zw q3;refine za (sv K2 K3 K4) (zo rfl (K1 _ (Chg.refl _ _))) ?_;obtain ⟨r271,K5,hs⟩ := bq hs;refine zC Bd51 rfl (xJ (M := a8) s249.1 x266 d1 q3 hO.fut K5) ?_;rintro _ e6 ⟨rfl,e7⟩;obtain ⟨h0,a0,b1,d1,c2,q3,v4,hC⟩ := xt8 e7 h0 a0 b1 d1 c2 q3 v4 hC;have hO := hO.ext e7;refine za (.tuple #[(iv r271.1),(.bool r271.2)]) (zD rfl) (za (iv r271.1) (zE rfl (by kernel_rfl)) (za (.bool r271.2) (zE rfl (by kernel_rfl)) (ai rfl (ab rfl (zb (c_sr (mb rfl (za _ (yc rfl) (zb ?_)))))))));rcases zm hs with ⟨v5,hs⟩ | ⟨v5,hs⟩
     ·refine zl (cb v5) (c_sr (ms rfl (ms rfl (mi rfl ?_))));obtain ⟨x273,K6,hs⟩ := bq hs;obtain ⟨K7,K8,K9,v6⟩ := zI Sl56 Sz48 b1 K6;refine za _ (ip K9 rfl rfl) ?_;obtain ⟨R0,L0,l6⟩ := zT Ag48 Sz48 (fun _ => rfl) v6;obtain ⟨L1,L2,L3,rfl⟩ := Zw l6;refine za (sv L1 L2 L3) (zo rfl (L0 _ (Chg.refl _ _))) ?_;obtain ⟨r278,L4,hs⟩ := bq hs;refine zC Bd88 rfl (VB (M := a8) s249.1 x273 d1 l6 hO.fut L4) ?_;rintro _ d2 ⟨C1,C2,C3,rfl,e8,o0⟩;have hK := hK.trans (show Keeps w a8 (Past a8 e6 d2) from Keeps.past hC.size);obtain ⟨h0,a0,b1,d1,c2,l6,v6,hC⟩ := xt8 e8 h0 a0 b1 d1 c2 l6 v6 hC;have hO := hO.past e8;have h0 := h0.pa e6 d2;have b1 := b1.pa e6 d2;have d1 := d1.pa e6 d2;have c2 := c2.pa e6 d2;have l6 := l6.pa e6 d2;refine ax rfl (zb (zh (ms rfl (ms rfl (mi rfl ?_)))));obtain ⟨x280,L5,hs⟩ := bq hs;obtain ⟨L6,L7,L8,v7⟩ := zI Sl56 Sz48 b1 L5;refine za _ (ip L8 rfl rfl) ?_;obtain ⟨R1,L9,l7⟩ := zT Ag48 Sz48 (fun _ => rfl) v7;obtain ⟨v8,v9,w1,rfl⟩ := Zw l7;refine za (sv v8 v9 w1) (zo rfl (L9 _ (Chg.refl _ _))) ?_;obtain ⟨C4,w2,M0,C5,e9,C6⟩ := zg d2 [(sv v8 v9 w1)] 48;refine za (w' := C4) (sv (some ⟨w2,0,none⟩) 1 1) (zy rfl (by rw [M0,C5]; kernel_rfl)) ?_;obtain ⟨h0,a0,b1,c2,o0,l7,v7,hC⟩ := xt8 e9 h0 a0 b1 c2 o0 l7 v7 hC;have hO := hO.new1 e9 C5 C6.lt;have w3 := zQ (r := rl) (M := (Past a8 e6 d2)) (css := [[(sv v8 v9 w1)]]) (fps := [([] : List Nat)]) (xs := ([x280] : tM)) C6 ⟨(ZX l7),trivial⟩ (nl rfl) nd1;have w3 : (RT.os 48 rl).val (Past a8 e6 d2) C4 (sv (some ⟨w2,0,none⟩) 1 1) [x280] [w2] := w3;obtain ⟨y287,M1,hs⟩ := bq hs;have hO := hO.fr1;obtain ⟨w4,w5,w6,M2,M3,M4,i9,M5,w7⟩ := Zg Rw56 M1 c2 w3 hO.inM (fun g hg hq => hO.apart g hq (zn hg));have l8 := zw c2;refine za (w' := M2) (sv w4 w5 w6) (zJ rfl rfl (M4 _)) ?_;have hO := hO.fr1.fr1;have h0 := h0.mt i9 hO l8;have a0 := a0.ap i9 hO l8 (zd mS);have b1 := b1.mt i9 hO l8;have o0 := o0.mt i9 hO l8;have l7 := l7.mt i9 hO l8;have hC := hC.st i9 hO l8;have hO := hO.eat i9 M5 (zu w7) w7.fpl;refine ax rfl (zb (zh (mi rfl (za _ (yad rfl rfl) (ai rfl (zb ?_))))));cases hs;have hO := hO.fr1.fr1;exact ⟨_,(Past a8 e6 d2),C1,C2,C3,w4,w5,w6,M3,fr_m 172 rfl,hC,hO,hK,h0,a0,b1,o0,w7⟩
     refine zk (cb v5) (wp_skip (zh (mi rfl (za _ (yad rfl rfl) (ai rfl (zb ?_))))));cases hs;have hO := hO.fr1.fr1;exact ⟨_,a8,i5,i6,i7,l3,l4,l5,n9,fr_m 172 rfl,hC,hO,hK,h0,a0,b1,d1,c2⟩
    refine zk (cb v3) (wp_exit ?_);cases hs;have hO := hO.fr1.fr1;exact ⟨rfl,_,a8,i5,i6,i7,l3,l4,l5,n9,fr_m 172 rfl,hC,hO,hK,h0,a0,b1,d1,c2⟩
   ·have hO := hO.fr1.fr1;exact ⟨_,p5,(some ⟨a6,0,none⟩),0,0,(some ⟨a7,0,none⟩),0,0,J3,fr_m 172 rfl,hC,hO,hK,h0,a0,b1,n8,v1⟩
   cases o253 with
   | nx _ => trivial
   | rt r_ =>
    have hs := zr hs;intro b8 k5 hK;cases hs;exact hK
   | br s249 =>
    have hs := zq hs;rintro b8 b5 ⟨σ,g3,p6,p7,p8,p9,q0,q1,q2,rfl,hC,hO,hK,h0,a0,b1,M6,M7⟩;refine ze (c_sr (ai rfl (zb ?_)));obtain ⟨o2570,M8,hs⟩ := bq hs;refine wp_block (ZG (id := 6) (I := fun s2566 a b6 => ∃ σ g4 l9 m0 m1 g5 g6 g7 o1,a = fr 172 (ovl σ [(1,(iv k)),(3,(pq a1 0)),(8,(sv l9 m0 m1)),(9,(sv g5 g6 g7)),(10,(iv r9)),(17,(iv s2566.2.2))]) ∧ Chg [] w b6 ∧ Own (Nw w []) g4 b6 (o1 ++ ([a1] ++ [])) ∧ Keeps w M g4 ∧ rp.val g4 b6 (sv pa0 pn0 pc0) a_.2 [] ∧ BoxV b6 a1 30 [(iv a_.1),(sv pa0 pn0 pc0)] ∧ rm.val g4 b6 (sv l9 m0 m1) s2566.1 [] ∧ (RT.os 48 rl).val g4 b6 (sv g5 g6 g7) s2566.2.1 o1) (J := fun s2566 a b6 => ∃ σ m2 j0 j1 j2 C7 C8 C9 w8,a = fr 172 (ovl σ [(8,(sv j0 j1 j2)),(10,(iv r9))]) ∧ Chg [] w b6 ∧ Own (Nw w []) m2 b6 (w8 ++ ([a1] ++ [])) ∧ Keeps w M m2 ∧ rp.val m2 b6 (sv pa0 pn0 pc0) a_.2 [] ∧ BoxV b6 a1 30 [(iv a_.1),(sv pa0 pn0 pc0)] ∧ rm.val m2 b6 (sv j0 j1 j2) s2566.1 [] ∧ (RT.os 48 rl).val m2 b6 (sv C7 C8 C9) s2566.2.1 w8) (K := (Yk M w)) ?_ FU (s249.1,s249.2.1,0) o2570 _ _ ?_ M8 ?_)
    ·rintro s2566 o2570 a b6 ⟨σ,g4,l9,m0,m1,g5,g6,g7,o1,rfl,hC,hO,hK,h0,a0,q4,m3⟩ hs;refine ze (ze (yI (I := fun a D0 => ∃ σ,a = fr 172 (ovl σ [(1,(iv k)),(3,(pq a1 0)),(8,(sv l9 m0 m1)),(9,(sv g5 g6 g7)),(10,(iv r9)),(17,(iv s2566.2.2)),(104,(.bool ((decide (s2566.2.2 < (s2566.2.1.length : Int))) && (decide ((s2566.2.1.length : Int) ≤ r9)))))]) ∧ Chg [] b6 D0) ?_ ?_))
     ·have hMid := Chg.refl [] b6;refine zh (mi rfl (ms rfl (za _ (zt Sl56 (yD m3) rfl) (za _ (zA rfl rfl) (mb rfl ?_)))));rcases Bool.eq_false_or_eq_true ((decide (s2566.2.2 < (s2566.2.1.length : Int)))) with b9 | b9
      ·refine py 99 (sv g5 g6 g7) (cb b9) (zD rfl) (py 99 _ (cb b9) (zt Sl56 (yD m3) rfl) (py 99 (iv r9) (cb b9) (zD rfl) (py 99 _ (cb b9) (vv rfl rfl) (za (.bool ((decide (s2566.2.2 < (s2566.2.1.length : Int))) && (decide ((s2566.2.1.length : Int) ≤ r9)))) (yF (cb b9) (cb (by rw [b9]; rfl))) (zb ?_)))));exact ⟨_,fr_m 172 rfl,hMid⟩
      refine pn 99 (cb b9) (pn 99 (cb b9) (pn 99 (cb b9) (pn 99 (cb b9) (za (.bool ((decide (s2566.2.2 < (s2566.2.1.length : Int))) && (decide ((s2566.2.1.length : Int) ≤ r9)))) (yH (cb b9) (cb (by rw [b9]; rfl))) (zb ?_)))));exact ⟨_,fr_m 172 rfl,hMid⟩
     rintro b8 D0 ⟨σ,rfl,m4⟩;obtain ⟨h0,a0,q4,m3,hC,hO⟩ := xt6 m4 h0 a0 q4 m3 hC hO;rcases zm hs with ⟨w9,hs⟩ | ⟨w9,hs⟩
     ·refine zl (cb w9) (wp_skip (ze (wp_block (c_sr (ai rfl (zb ?_))))));obtain ⟨o3336,M9,hs⟩ := bq hs;refine wp_block (zU (id := 8) (a_.2.length : Int) (I := fun k3334 s3332 a b4 => ∃ σ d3 m5 m6 m7 m8 m9 n0 n1,a = fr 172 (ovl σ [(1,(iv k)),(3,(pq a1 0)),(8,(sv m5 m6 m7)),(9,(sv m8 m9 n0)),(10,(iv r9)),(17,(iv s2566.2.2)),(18,(iv k3334))]) ∧ Chg [] w b4 ∧ Own (Nw w []) d3 b4 (n1 ++ ([a1] ++ [])) ∧ Keeps w M d3 ∧ rp.val d3 b4 (sv pa0 pn0 pc0) a_.2 [] ∧ BoxV b4 a1 30 [(iv a_.1),(sv pa0 pn0 pc0)] ∧ rm.val d3 b4 (sv m5 m6 m7) s3332.1 [] ∧ (RT.os 48 rl).val d3 b4 (sv m8 m9 n0) s3332.2 n1) (J := fun s3332 a b4 => ∃ σ j3 q5 q6 q7 q8 q9 r0 r1,a = fr 172 (ovl σ [(1,(iv k)),(3,(pq a1 0)),(8,(sv q5 q6 q7)),(9,(sv q8 q9 r0)),(10,(iv r9)),(17,(iv s2566.2.2))]) ∧ Chg [] w b4 ∧ Own (Nw w []) j3 b4 (r1 ++ ([a1] ++ [])) ∧ Keeps w M j3 ∧ rp.val j3 b4 (sv pa0 pn0 pc0) a_.2 [] ∧ BoxV b4 a1 30 [(iv a_.1),(sv pa0 pn0 pc0)] ∧ rm.val j3 b4 (sv q5 q6 q7) s3332.1 [] ∧ (RT.os 48 rl).val j3 b4 (sv q8 q9 r0) s3332.2 r1) (K := (Yk M w)) ?_ ?_ 0 (s2566.1,s2566.2.1) o3336 _ _ ?_ M9 ?_)
      ·rintro k3334 s3332 a b4 ⟨σ,d3,m5,m6,m7,m8,m9,n0,n1,rfl,hC,hO,hK,h0,a0,j4,j5⟩ hlt;refine ze (c_sr (mi rfl (za (pq a1 1) (zj rfl ZH) (za _ (ld rfl Ag28 Sz28 a0 rfl) (za _ (zt Sl28 (zB h0) rfl) (za _ (zA rfl rfl) (zb (zk (df hlt) (wp_exit ?_)))))))));have hO := hO.fr1.fr1;exact ⟨rfl,_,d3,m5,m6,m7,m8,m9,n0,n1,fr_m 172 rfl,hC,hO,hK,h0,a0,j4,j5⟩
      ·rintro k3334 s3332 o3336 a b4 ⟨σ,d3,m5,m6,m7,m8,m9,n0,n1,rfl,hC,hO,hK,h0,a0,j4,j5⟩ hlt hw hs;refine ze (c_sr (mi rfl (za (pq a1 1) (zj rfl ZH) (za _ (ld rfl Ag28 Sz28 a0 rfl) (za _ (zt Sl28 (zB h0) rfl) (za _ (zA rfl rfl) (zb (zl (dt hlt) (wp_skip (ze (wp_block (ze (Za [] Mx rfl ?_)))))))))))));have j6 := Chg.drew b4;generalize World.drew b4 = D1 at j6 ⊢;obtain ⟨h0,a0,j4,j5,hC,hO⟩ := xt6 j6 h0 a0 j4 j5 hC hO;have hS := Chg.refl [] D1;refine xq 0 (pq a1 1) rfl (zj rfl ZH) hS (xl 1 rfl (ldx rfl Ag28 Sz28 a0 rfl) hS (xmi 2 rfl rfl hS ?_));obtain ⟨x3359,N0,hs⟩ := bq hs;obtain ⟨D2,D3,N1,x0⟩ := zI Sl28 Sz50 h0 N0;refine xq 3 _ rfl (ip N1 rfl rfl) hS ?_;obtain ⟨x1,_⟩ := XH x0;refine xq 4 (.pointer (some ⟨D2,D3 + 0,none⟩)) rfl (zj rfl yW) hS (x_l 5 (iv x3359.1) rfl (by kernel_rfl) (fun w' hw' => zo rfl ((zp Ag3 Sz3 x1) w' hw')) hS (xq 7 (pq a1 1) rfl (zj rfl ZH) hS (xl 8 rfl (ldx rfl Ag28 Sz28 a0 rfl) hS (xmi 9 rfl rfl hS ?_))));obtain ⟨x3362,N2,hs⟩ := bq hs;obtain ⟨D4,D5,N3,x2⟩ := zI Sl28 Sz50 h0 N2;refine xq 10 _ rfl (ip N3 rfl rfl) hS ?_;obtain ⟨x3,_⟩ := XH x2;refine xq 11 (.pointer (some ⟨D4,D5 + 0,none⟩)) rfl (zj rfl yW) hS (x_l 12 (iv x3362.1) rfl (by kernel_rfl) (fun w' hw' => zo rfl ((zp Ag3 Sz3 x3) w' hw')) hS (xq 13 _ rfl (xg rfl rfl) hS (zN (i := 6) (by kernel_rfl) ?_)));obtain ⟨y3366,N4,hs⟩ := bq hs;obtain ⟨x4,x5,x6,N5,N6,N7,c3,N8,x7⟩ := Wb (M := d3) (w := D1) (r := ri) Rw48 N4 (fun _ _ => ⟨rfl,rfl⟩);refine zO (w' := N5) (b := false) (sv x4 x5 x6) rfl (Xf rfl rfl N7) rfl (fun _ => hS.ext c3) ?_;obtain ⟨h0,a0,j4,j5,x0,x1,x2,x3⟩ := xt8 c3 h0 a0 j4 j5 x0 x1 x2 x3;have hC := hC.ext c3;have hO := hO.new c3 N8 (zu x7) x7.fpl;have hS := hS.ext c3;refine xq 14 (sv x4 x5 x6) rfl (zG rfl) hS (xq 15 (.bool (decide (0 < x3362.1))) rfl (zG rfl) hS (xe ?_));clear hS;obtain ⟨o3595,N9,hs⟩ := bq hs;refine wp_block (ZG (id := 10) (I := fun s3591 a b3 => ∃ σ f0 f1 f2 f3 d4 d5 d6 j7 d7 d8 d9 o2,a = fr 172 (ovl σ [(1,(iv k)),(3,(pq a1 0)),(8,(sv f1 f2 f3)),(9,(sv d4 d5 d6)),(10,(iv r9)),(17,(iv s2566.2.2)),(18,(iv k3334)),(19,(sv d7 d8 d9)),(20,(.bool s3591.2.2.2))]) ∧ Chg [] w b3 ∧ Own (Nw w []) f0 b3 (j7 ++ (o2 ++ ([a1] ++ []))) ∧ Keeps w M f0 ∧ rp.val f0 b3 (sv pa0 pn0 pc0) a_.2 [] ∧ BoxV b3 a1 30 [(iv a_.1),(sv pa0 pn0 pc0)] ∧ rm.val f0 b3 (sv f1 f2 f3) s3591.1 [] ∧ (RT.os 48 rl).val f0 b3 (sv d4 d5 d6) s3591.2.1 j7 ∧ (RT.os 3 ri).val f0 b3 (sv d7 d8 d9) s3591.2.2.1 o2) (J := fun s3591 a b3 => ∃ σ g8 r2 r3 r4 r5 r6 r7 r8 D6 D7 D8 x8,a = fr 172 (ovl σ [(1,(iv k)),(3,(pq a1 0)),(8,(sv r2 r3 r4)),(9,(sv r5 r6 r7)),(10,(iv r9)),(17,(iv s2566.2.2)),(18,(iv k3334))]) ∧ Chg [] w b3 ∧ Own (Nw w []) g8 b3 (r8 ++ (x8 ++ ([a1] ++ []))) ∧ Keeps w M g8 ∧ rp.val g8 b3 (sv pa0 pn0 pc0) a_.2 [] ∧ BoxV b3 a1 30 [(iv a_.1),(sv pa0 pn0 pc0)] ∧ rm.val g8 b3 (sv r2 r3 r4) s3591.1 [] ∧ (RT.os 48 rl).val g8 b3 (sv r5 r6 r7) s3591.2.1 r8 ∧ (RT.os 3 ri).val g8 b3 (sv D6 D7 D8) s3591.2.2.1 x8) (K := (Yk M w)) ?_ FU (s3332.1,s3332.2,y3366,(decide (0 < x3362.1))) o3595 _ _ ?_ N9 ?_)
       ·rintro s3591 o3595 a b3 ⟨σ,f0,f1,f2,f3,d4,d5,d6,j7,d7,d8,d9,o2,rfl,hC,hO,hK,h0,a0,a5,a4,e0⟩ hs;refine ze (ze (yI (I := fun a D9 => ∃ σ,a = fr 172 (ovl σ [(1,(iv k)),(3,(pq a1 0)),(8,(sv f1 f2 f3)),(9,(sv d4 d5 d6)),(10,(iv r9)),(17,(iv s2566.2.2)),(18,(iv k3334)),(19,(sv d7 d8 d9)),(20,(.bool s3591.2.2.2)),(134,(.bool (s3591.2.2.2 && (decide ((s3591.2.1.length : Int) ≤ r9)))))]) ∧ Chg [] b3 D9) ?_ ?_))
        ·have hMid := Chg.refl [] b3;refine zh (mb rfl (mb rfl ?_));rcases Bool.eq_false_or_eq_true (s3591.2.2.2) with c0 | c0
         ·refine py 129 (sv d4 d5 d6) (cb c0) (zD rfl) (py 129 _ (cb c0) (zt Sl56 (yD a4) rfl) (py 129 (iv r9) (cb c0) (zD rfl) (py 129 _ (cb c0) (vv rfl rfl) (za (.bool (s3591.2.2.2 && (decide ((s3591.2.1.length : Int) ≤ r9)))) (yF (cb c0) (cb (by rw [c0]; rfl))) (zb ?_)))));exact ⟨_,fr_m 172 rfl,hMid⟩
         refine pn 129 (cb c0) (pn 129 (cb c0) (pn 129 (cb c0) (pn 129 (cb c0) (za (.bool (s3591.2.2.2 && (decide ((s3591.2.1.length : Int) ≤ r9)))) (yH (cb c0) (cb (by rw [c0]; rfl))) (zb ?_)))));exact ⟨_,fr_m 172 rfl,hMid⟩
        rintro b8 D9 ⟨σ,rfl,j8⟩;obtain ⟨h0,a0,a5,a4,e0,hC,hO⟩ := xt7 j8 h0 a0 a5 a4 e0 hC hO;rcases zm hs with ⟨x9,hs⟩ | ⟨x9,hs⟩
        ·refine zl (cb x9) (wp_skip (wp_block (ze (c_sr (ms rfl (mi rfl ?_))))));have hO := hO.fr1;obtain ⟨r3617,O0,hs⟩ := bq hs;refine zC Bd89 rfl (zbd (M := (Less f0 o2)) s3591.2.2.1 s2566.2.2 (((Frz.os Frz.int)).val e0 Less.sub Less.not) hO.less.fut O0) ?_;rintro _ E0 ⟨rfl,j9⟩;obtain ⟨h0,a0,a5,a4,e0,hC,hO⟩ := xt7 j9 h0 a0 a5 a4 e0 hC hO;refine zb ?_;obtain ⟨s3674,O1,hs⟩ := bq hs;refine yI (I := fun a g9 => ∃ σ f4 s0 s1 s2 s3 s4 s5 o3,a = fr 172 (ovl σ [(1,(iv k)),(3,(pq a1 0)),(8,(sv s0 s1 s2)),(9,(sv s3 s4 s5)),(10,(iv r9)),(17,(iv s2566.2.2)),(18,(iv k3334)),(19,(sv d7 d8 d9)),(20,(.bool s3591.2.2.2))]) ∧ Chg [] w g9 ∧ Own (Nw w []) f4 g9 (o3 ++ ([a1] ++ [])) ∧ Keeps w M f4 ∧ rp.val f4 g9 (sv pa0 pn0 pc0) a_.2 [] ∧ BoxV g9 a1 30 [(iv a_.1),(sv pa0 pn0 pc0)] ∧ rl.val f4 g9 (sv d7 d8 d9) s3674.2.2 [] ∧ rm.val f4 g9 (sv s0 s1 s2) s3674.1 [] ∧ (RT.os 48 rl).val f4 g9 (sv s3 s4 s5) s3674.2.1 o3) ?_ ?_
         ·replace hs := O1;rcases zm hs with ⟨y0,hs⟩ | ⟨y0,hs⟩
          ·refine zl (cb y0) (ze (Za [] Mx rfl ?_));have h2 := Chg.drew E0;generalize World.drew E0 = f5 at h2 ⊢;obtain ⟨h0,a0,a5,a4,e0,hC,hO⟩ := xt7 h2 h0 a0 a5 a4 e0 hC hO;have hS := Chg.refl [] f5;refine xl 0 rfl (ldxw rfl Ag30 a0 Sz30) hS (xmi 1 rfl rfl hS (xms 2 rfl rfl hS (xms 3 rfl rfl hS (xmi 5 rfl rfl hS (zN (i := 4) (by kernel_rfl) ?_)))));obtain ⟨c1,R2,y1,O2,hO,a9⟩ := Zm (Frz.os Frz.int) e0 hO;obtain ⟨h0,a5,a4⟩ := su3 y1 h0 a5 a4;have hK := hK.trans O2;obtain ⟨r3695,O3,hs⟩ := bq hs;refine zV (b := false) rfl Bd90 rfl (vn (M := c1) s3591.2.1 s3591.2.2.1 a4 a9 hO.fut O3) rfl (by rintro _ _ _ ⟨O4,O5,O6,rfl,e1,n2⟩; exact hS.ext e1) ?_;rintro _ h3 ⟨O4,O5,O6,rfl,e1,n2⟩;have hK := hK.trans (show Keeps w c1 (Past c1 f5 h3) from Keeps.past hC.size);obtain ⟨h0,a0,a5,a4,a9,hC⟩ := xt6 e1 h0 a0 a5 a4 a9 hC;have hO := hO.past e1;have h0 := h0.pa f5 h3;have a5 := a5.pa f5 h3;have a4 := a4.pa f5 h3;have a9 := a9.pa f5 h3;have hS := hS.ext e1;refine zN (i := 6) (by kernel_rfl) ?_;obtain ⟨r3698,O7,hs⟩ := bq hs;refine zV (b := false) rfl Bd87 rfl (wd (M := (Past c1 f5 h3)) (a_.1,a_.2) k3334 r3695 k h0 n2 hO.fut O7) rfl (by rintro _ _ _ ⟨k0,k1,k2,y2,rfl,c6,o4,E1⟩; exact hS.ext c6) ?_;rintro _ R3 ⟨k0,k1,k2,y2,rfl,c6,o4,E1⟩;obtain ⟨h0,a0,a5,a4,a9,n2,hC⟩ := xt7 c6 h0 a0 a5 a4 a9 n2 hC;have hO := Own.join0 hO c6 E1;have hO := hO.perm (R := y2 ++ (j7 ++ ([a1] ++ []))) (by simp);have hS := hS.ext c6;refine xq 7 (sv k0 k1 k2) rfl (zG rfl) hS (xe ?_);clear hS;refine c_sr (ms rfl (ms rfl ?_));obtain ⟨r3701,O8,hs⟩ := bq hs;refine zC Bd51 rfl (xJ (M := (Less (Past c1 f5 h3) y2)) s3591.1 r3698 (a5.sub Less.sub) (((Frz.os Frz.int)).val o4 Less.sub Less.not) hO.less.fut O8) ?_;rintro _ f6 ⟨rfl,f7⟩;obtain ⟨h0,a0,a5,a4,a9,n2,o4,hC⟩ := xt8 f7 h0 a0 a5 a4 a9 n2 o4 hC;have hO := hO.ext f7;refine za (.tuple #[(iv r3701.1),(.bool r3701.2)]) (zD rfl) (za (iv r3701.1) (zE rfl (by kernel_rfl)) (za (.bool r3701.2) (zE rfl (by kernel_rfl)) (ai rfl (ab rfl (zb (c_sr (mb rfl (za _ (yc rfl) (zb ?_)))))))));rcases zm hs with ⟨y3,hs⟩ | ⟨y3,hs⟩
           ·refine zl (cb y3) (c_sr (ms rfl (ms rfl ?_)));obtain ⟨b7,R4,s6,O9,hO,e2⟩ := Zm (Frz.os Frz.int) o4 hO;obtain ⟨h0,a5,a4,a9⟩ := su4 s6 h0 a5 a4 a9;have hK := hK.trans O9;obtain ⟨r3705,P0,hs⟩ := bq hs;refine zC Bd88 rfl (VB (M := b7) s3591.1 r3698 a5 e2 hO.fut P0) ?_;rintro _ e3 ⟨E2,E3,E4,rfl,h4,o5⟩;have hK := hK.trans (show Keeps w b7 (Past b7 f6 e3) from Keeps.past hC.size);obtain ⟨h0,a0,a5,a4,a9,e2,hC⟩ := xt7 h4 h0 a0 a5 a4 a9 e2 hC;have hO := hO.past h4;have h0 := h0.pa f6 e3;have a5 := a5.pa f6 e3;have a4 := a4.pa f6 e3;have a9 := a9.pa f6 e3;have e2 := e2.pa f6 e3;refine ax rfl (zb (zh (ms rfl (ms rfl ?_))));obtain ⟨E5,y4,P1,E6,h5,E7⟩ := zg e3 [(sv k0 k1 k2)] 48;refine za (w' := E5) (sv (some ⟨y4,0,none⟩) 1 1) (zy rfl (by rw [P1,E6]; kernel_rfl)) ?_;obtain ⟨h0,a0,a4,a9,e2,o5,hC⟩ := xt7 h5 h0 a0 a4 a9 e2 o5 hC;have hO := hO.new1 h5 E6 E7.lt;have y5 := zQ (r := rl) (M := (Past b7 f6 e3)) (css := [[(sv k0 k1 k2)]]) (fps := [([] : List Nat)]) (xs := ([r3698] : tM)) E7 ⟨(ZX e2),trivial⟩ (nl rfl) nd1;have y5 : (RT.os 48 rl).val (Past b7 f6 e3) E5 (sv (some ⟨y4,0,none⟩) 1 1) [r3698] [y4] := y5;obtain ⟨y3710,P2,hs⟩ := bq hs;have hO := hO.fr1;obtain ⟨y6,y7,y8,P3,P4,P5,k3,P6,y9⟩ := Zg Rw56 P2 a4 y5 hO.inM (fun g hg hq => hO.apart g hq (zn hg));have n3 := zw a4;refine za (w' := P3) (sv y6 y7 y8) (zJ rfl rfl (P5 _)) ?_;have hO := hO.fr1.fr1;have h0 := h0.mt k3 hO n3;have a0 := a0.ap k3 hO n3 (zd mS);have a9 := a9.mt k3 hO n3;have e2 := e2.mt k3 hO n3;have o5 := o5.mt k3 hO n3;have hC := hC.st k3 hO n3;have hO := hO.eat k3 P6 (zu y9) y9.fpl;refine ax rfl (zb ?_);cases hs;have hO := hO.fr1.fr1;exact ⟨_,(Past b7 f6 e3),E2,E3,E4,y6,y7,y8,P4,fr_m 172 rfl,hC,hO,hK,h0,a0,a9,o5,y9⟩
           refine zk (cb y3) (wp_skip ?_);cases hs;have hO := hO.drop.fr1.fr1;exact ⟨_,(Past c1 f5 h3),f1,f2,f3,d4,d5,d6,j7,fr_m 172 rfl,hC,hO,hK,h0,a0,a9,a5,a4⟩
          refine zk (cb y0) (wp_skip ?_);cases hs;obtain ⟨s7,R5,z0,P7,hO,P8⟩ := Zm (Frz.os Frz.int) e0 hO;obtain ⟨h0,a5,a4⟩ := su3 z0 h0 a5 a4;have hK := hK.trans P7;have hO := hO.fr1.fr1;exact ⟨_,s7,f1,f2,f3,d4,d5,d6,j7,fr_m 172 rfl,hC,hO,hK,h0,a0,P8,a5,a4⟩
         rintro b8 g9 ⟨σ,f4,s0,s1,s2,s3,s4,s5,o3,rfl,hC,hO,hK,h0,a0,z1,z2,z3⟩;refine zh (ms rfl (mi rfl (za _ (yad rfl rfl) ?_)));obtain ⟨r3714,P9,hs⟩ := bq hs;refine zC Bd91 rfl (vs (M := f4) s3674.2.2 (w64 (s2566.2.2 + 1)) z1 hO.fut P9) ?_;rintro _ R6 ⟨s8,s9,t0,E8,rfl,k4,Q0,Q1⟩;obtain ⟨h0,a0,z1,z2,z3,hC⟩ := xt6 k4 h0 a0 z1 z2 z3 hC;have hO := Own.join0 hO k4 Q1;have hO := hO.perm (R := E8 ++ (o3 ++ ([a1] ++ []))) (by simp);refine za (.tuple #[(sv s8 s9 t0),(.bool r3714.2)]) (zD rfl) (za (sv s8 s9 t0) (zE rfl (by kernel_rfl)) (za (.bool r3714.2) (zE rfl (by kernel_rfl)) (ax rfl (ab rfl (zb ?_)))));cases hs;have hO := hO.fr2.fr1.fr2;exact ⟨_,f4,s0,s1,s2,s3,s4,s5,o3,s8,s9,t0,E8,fr_m 172 rfl,hC,hO,hK,h0,a0,z2,z3,Q0⟩
        refine zk (cb x9) (wp_exit ?_);cases hs;have hO := hO.fr2.fr2.fr2;exact ⟨rfl,_,f0,f1,f2,f3,d4,d5,d6,j7,d7,d8,d9,o2,fr_m 172 rfl,hC,hO,hK,h0,a0,a5,a4,e0⟩
       ·have hO := hO.fr2.fr1.fr2;exact ⟨_,d3,m5,m6,m7,m8,m9,n0,n1,x4,x5,x6,N6,fr_m 172 rfl,hC,hO,hK,h0,a0,j4,j5,x7⟩
       cases o3595 with
       | nx _ => trivial
       | rt r_ =>
        have hs := zr hs;intro b8 k5 hK;cases hs;exact hK
       | br s3591 =>
        have hs := zq hs;rintro b8 b3 ⟨σ,g8,r2,r3,r4,r5,r6,r7,r8,D6,D7,D8,x8,rfl,hC,hO,hK,h0,a0,Q2,Q3,R7⟩;refine zh (mi rfl (za _ (yad rfl rfl) (ai rfl (zb ?_))));cases hs;have hO := hO.fr1.drop.fr1.fr1;exact ⟨_,g8,r2,r3,r4,r5,r6,r7,r8,zF 172 ⟨rfl,rfl,rfl,rfl,rfl,rfl,congrArg (Value.int .i64) hw,trivial⟩,hC,hO,hK,h0,a0,Q2,Q3⟩
      ·have hO := hO.fr1.fr1;exact ⟨_,g4,l9,m0,m1,g5,g6,g7,o1,fr_m 172 rfl,hC,hO,hK,h0,a0,q4,m3⟩
      cases o3336 with
      | nx _ => trivial
      | rt r_ =>
       have hs := zr hs;intro b8 k5 hK;cases hs;exact hK
      | br s3332 =>
       have hs := zq hs;rintro b8 b4 ⟨σ,j3,q5,q6,q7,q8,q9,r0,r1,rfl,hC,hO,hK,h0,a0,Q4,Q5⟩;refine zh (mi rfl (za _ (yad rfl rfl) (ai rfl (zb ?_))));cases hs;have hO := hO.fr1.fr1;exact ⟨_,j3,q5,q6,q7,q8,q9,r0,r1,fr_m 172 rfl,hC,hO,hK,h0,a0,Q4,Q5⟩
     refine zk (cb w9) (wp_exit ?_);cases hs;have hO := hO.fr1.fr1;exact ⟨rfl,_,g4,l9,m0,m1,g5,g6,g7,o1,fr_m 172 rfl,hC,hO,hK,h0,a0,q4,m3⟩
    ·have hO := hO.fr1.fr1;exact ⟨_,g3,p6,p7,p8,p9,q0,q1,q2,fr_m 172 rfl,hC,hO,hK,h0,a0,M6,M7⟩
    cases o2570 with
    | nx _ => trivial
    | rt r_ =>
     have hs := zr hs;intro b8 k5 hK;cases hs;exact hK
    | br s2566 =>
     have hs := zq hs;rintro b8 b6 ⟨σ,m2,j0,j1,j2,C7,C8,C9,w8,rfl,hC,hO,hK,h0,a0,E9,R8⟩;refine c_sr (ms rfl (ms rfl (za _ (zt Sl56 (zB E9) rfl) (mi rfl (za _ (vv rfl rfl) (ax rfl (ab rfl (zb (wp_ret ?_)))))))));cases hs;exact ⟨_,j0,j1,j2,fr_m 172 rfl,hC,(Keeps.out hK E9)⟩

def vD (M : Nat → Prop) (w0 : World) (r : (List Int)) (a : Act) (w : World) : Prop :=
  ∃ σ ra0 rn0 rc0 rf0,a = fr 27 (ovl σ [(6,(sv ra0 rn0 rc0))]) ∧ Chg [] w0 w ∧ (RT.os 3 ri).val M w (sv ra0 rn0 rc0) r rf0 ∧ Own (Nw w0 []) (fun _ => True) w (rf0 ++ [])
def ZD (n : Int) (arity : Int) (at_ : Int) : Option ((List Int)) :=
  (mks arity (0 : Int)).bind fun y2 =>
  (iter (S := Int × Int × (List Int)) (R := (List Int)) (fun s17 =>
  (bif (decide (0 ≤ s17.2.1)) then (nz n).bind fun u26 =>
  (idx s17.2.2 s17.2.1).bind fun x27 =>
  (nz n).bind fun u30 =>
  some (.nx (w64 (Int.tdiv s17.1 n),w64 (s17.2.1 - 1),List.set s17.2.2 (Int.toNat s17.2.1) (Int.tmod s17.1 n))) else some (.br (s17.1,s17.2.1,s17.2.2)))) FU (at_,w64 (arity - 1),y2)).bind fun o21 => after o21 (fun r_ => some r_) (fun s17 =>
  some s17.2.2)
theorem XD {M : Nat → Prop} {w : World}  (n : Int) (arity : Int) (at_ : Int) (hM : Hm w M) {r : (List Int)} (hs : ZD n arity at_ = some r) :
    Gives Tryz.prog 50 [(iv n),(iv arity),(iv at_)] w (fun v w' => ∃ ra0 rn0 rc0 rf0,v = (sv ra0 rn0 rc0) ∧ Chg [] w w' ∧ (RT.os 3 ri).val M w' (sv ra0 rn0 rc0) r rf0 ∧ Own (Nw w []) (fun _ => True) w' (rf0 ++ [])) := by
 refine zx Tryz.func50 rfl Tryz.ntmps50 (nl rfl) ?_;obtain ⟨hO,hC⟩ := st0 hM;unfold ZD at hs;refine wp_k (K := (vD M w r)) (by rintro _ _ ⟨σ,ra0,rn0,rc0,rf0,rfl,hrest⟩; exact Zd Tryz.results50 (zH rfl) ⟨ra0,rn0,rc0,rf0,rfl,hrest⟩) (c_sr (ax rfl (zb (c_sr (mi rfl ?_)))));obtain ⟨y2,b5,hs⟩ := bq hs;obtain ⟨a0,a1,a2,a7,b6,b7,b1,b8,a8⟩ := Wb (M := M) (w := w) (r := ri) Rw48 b5 (fun _ _ => ⟨rfl,rfl⟩);refine za (w' := a7) (sv a0 a1 a2) (Xf rfl rfl b7) ?_;have hC := hC.ext b1;have hO := hO.new b1 b8 (zu a8) a8.fpl;refine ax rfl (zb (ze (c_sr (mi rfl (za _ (ysu rfl rfl) (ai rfl (zb ?_)))))));obtain ⟨o21,b9,hs⟩ := bq hs;refine wp_block (ZG (id := 0) (I := fun s17 a a3 => ∃ σ a4,a = fr 27 (ovl σ [(0,(iv n)),(2,(iv s17.1)),(7,(sv a0 a1 a2)),(8,(iv s17.2.1))]) ∧ Chg [] w a3 ∧ Own (Nw w []) M a3 (a4 ++ []) ∧ (RT.os 3 ri).val M a3 (sv a0 a1 a2) s17.2.2 a4) (J := fun s17 a a3 => ∃ σ a6,a = fr 27 (ovl σ [(7,(sv a0 a1 a2))]) ∧ Chg [] w a3 ∧ Own (Nw w []) M a3 (a6 ++ []) ∧ (RT.os 3 ri).val M a3 (sv a0 a1 a2) s17.2.2 a6) (K := (vD M w)) ?_ FU (at_,w64 (arity - 1),y2) o21 _ _ ?_ b9 ?_)
 ·rintro s17 o21 a a3 ⟨σ,a4,rfl,hC,hO,a5⟩ hs;refine ze (c_sr (mi rfl (za _ (WU rfl rfl) (zb ?_))));rcases zm hs with ⟨a9,hs⟩ | ⟨a9,hs⟩
  ·refine zl (cb a9) (wp_skip (ze (wp_block (c_sr (ms rfl (mi rfl (mi rfl (mi rfl ?_))))))));obtain ⟨u26,c0,hs⟩ := bq hs;refine za (iv (Int.tmod s17.1 n)) (zaL rfl rfl (Wy c0)) ?_;obtain ⟨x27,c1,hs⟩ := bq hs;obtain ⟨b2,d1,b3,c2,c3,d2,d3⟩ := ZI Sl48 Sz3 a5 c1;refine za _ (ip c3 rfl rfl) ?_;obtain ⟨c4,c5,c6,b4,c7,b0⟩ := YI (P := Tryz.prog) (c' := [(iv (Int.tmod s17.1 n))]) b3 a5 c2 (fun g hg => hO.inM g (zw a5 g (by simpa using hg))) ⟨rfl,rfl⟩ List.nodup_nil (fun _ h => nomatch h) (fun _ h => .inl h);have c8 : ∀ q ∈ [b2],q ∈ a4 := fun q hq => zw a5 q (by rw [b3]; exact hq)
   refine zS (w' := c4) (zL rfl rfl (c6 _ _ rfl Sz3)) ?_;have hC := hC.st b4 hO c8;have hO := hO.grow b4 (fun q hq => .inl ((c7 q hq).resolve_right (fun h => nomatch h))) (zu b0) b0.fpl;refine zb (zh (mi rfl (mi rfl ?_)));obtain ⟨u30,c9,hs⟩ := bq hs;refine za (iv (w64 (Int.tdiv s17.1 n))) (UH rfl rfl (Wy c9)) (ai rfl (zb (zh (mi rfl (za _ (ysu rfl rfl) (ai rfl (zb ?_)))))));cases hs;exact ⟨_,c5,fr_m 27 rfl,hC,hO,b0⟩
  refine zk (cb a9) (wp_exit ?_);cases hs;exact ⟨rfl,_,a4,fr_m 27 rfl,hC,hO,a5⟩
 ·exact ⟨_,b6,fr_m 27 rfl,hC,hO,a8⟩
 cases o21 with
 | nx _ => trivial
 | rt r_ =>
  have hs := zr hs;intro a0 a7 hK;cases hs;exact hK
 | br s17 =>
  have hs := zq hs;rintro a0 a3 ⟨σ,a6,rfl,hC,hO,d0⟩;refine c_sr (ms rfl (ax rfl (zb (wp_ret ?_))));cases hs;exact ⟨_,a0,a1,a2,a6,fr_m 27 rfl,hC,d0,hO.top⟩

def Wc (M : Nat → Prop) (w0 : World) (r : Bool) (a : Act) (w : World) : Prop :=
  ∃ σ,a = fr 41 (ovl σ [(4,(.bool r))]) ∧ Chg [] w0 w
def YK (r_ : List (List Int)) (s_ : List (List Int)) : Option (Bool) :=
  (bif ((r_.length : Int) != (s_.length : Int)) then some (decide ((r_.length : Int) < (s_.length : Int))) else (forC (S := Unit) (R := Bool) (fun k40 s38 =>
  (idx r_ k40).bind fun x56 =>
  (idx s_ k40).bind fun x60 =>
  (ZN x56 x60).bind fun r66 =>
  (bif (!r66) then (idx r_ k40).bind fun x69 =>
  (idx s_ k40).bind fun x73 =>
  (YB x69 x73).bind fun r78 =>
  some (.rt r78) else some (.nx ()))) 0 (r_.length : Int) ()).bind fun o42 => after o42 (fun r_ => some r_) (fun s38 =>
  some false))
theorem VW (r_ : tM) (s_ : tM) (h0 : rm.val M w (sv pa0 pn0 pc0) r_ []) (h1 : rm.val M w (sv pa1 pn1 pc1) s_ []) (hM : Hm w M) {r : Bool} (hs : YK r_ s_ = some r) :
    Gives Tryz.prog 93 [(sv pa0 pn0 pc0),(sv pa1 pn1 pc1)] w (fun v w' => v = (.bool r) ∧ Chg [] w w') := by
 refine zx Tryz.func93 rfl Tryz.ntmps93 (nl rfl) ?_;obtain ⟨hO,hC⟩ := st0 hM;unfold YK at hs;refine wp_k (K := (Wc M w r)) (by rintro _ _ ⟨σ,rfl,hrest⟩; exact Zd Tryz.results93 (zH rfl) ⟨rfl,hrest⟩) (c_sr (ab rfl (zb (ze (c_sr (ms rfl (za _ (zt Sl56 (zB h0) rfl) (ms rfl (za _ (zt Sl56 (zB h1) rfl) (za (.bool ((r_.length : Int) != (s_.length : Int))) (Xp rfl rfl) (zb ?_)))))))))));rcases zm hs with ⟨b1,hs⟩ | ⟨b1,hs⟩
 ·refine zl (cb b1) (c_sr (ms rfl (za _ (zt Sl56 (zB h0) rfl) (ms rfl (za _ (zt Sl56 (zB h1) rfl) (za _ (zA rfl rfl) (ab rfl (zb (wp_ret ?_)))))))));cases hs;exact ⟨_,fr_m 41 rfl,hC⟩
 refine zk (cb b1) (wp_skip (ze (c_sr (ai rfl (zb ?_)))));obtain ⟨o42,b7,hs⟩ := bq hs;refine wp_block (zU (id := 0) (r_.length : Int) (I := fun k40 s38 a a1 => ∃ σ,a = fr 41 (ovl σ [(0,(sv pa0 pn0 pc0)),(1,(sv pa1 pn1 pc1)),(5,(iv k40))]) ∧ Chg [] w a1 ∧ Own (Nw w []) M a1 [] ∧ rm.val M a1 (sv pa0 pn0 pc0) r_ [] ∧ rm.val M a1 (sv pa1 pn1 pc1) s_ []) (J := fun s38 a a1 => ∃ σ,a = fr 41 (ovl σ []) ∧ Chg [] w a1 ∧ Own (Nw w []) M a1 [] ∧ rm.val M a1 (sv pa0 pn0 pc0) r_ [] ∧ rm.val M a1 (sv pa1 pn1 pc1) s_ []) (K := (Wc M w)) ?_ ?_ 0 () o42 _ _ ?_ b7 ?_)
 ·rintro k40 s38 a a1 ⟨σ,rfl,hC,hO,h0,h1⟩ hlt;refine ze (c_sr (mi rfl (ms rfl (za _ (zt Sl56 (zB h0) rfl) (za _ (zA rfl rfl) (zb (zk (df hlt) (wp_exit ?_))))))));exact ⟨rfl,_,zF 41 trivial,hC,hO,h0,h1⟩
 ·rintro k40 s38 o42 a a1 ⟨σ,rfl,hC,hO,h0,h1⟩ hlt hw hs;refine ze (c_sr (mi rfl (ms rfl (za _ (zt Sl56 (zB h0) rfl) (za _ (zA rfl rfl) (zb (zl (dt hlt) (wp_skip (ze (wp_block (ze (Za [] Mx rfl ?_))))))))))));have a8 := Chg.drew a1;generalize World.drew a1 = b8 at a8 ⊢;obtain ⟨h0,h1,hC,hO⟩ := xt4 a8 h0 h1 hC hO;have hS := Chg.refl [] b8;refine xms 0 rfl rfl hS (xmi 1 rfl rfl hS ?_);obtain ⟨x56,b9,hs⟩ := bq hs;obtain ⟨c0,c1,c2,a6⟩ := zI Sl56 Sz48 h0 b9;refine xq 2 _ rfl (ip c2 rfl rfl) hS ?_;obtain ⟨f5,c3,a4⟩ := zT Ag48 Sz48 (fun _ => rfl) a6;obtain ⟨c4,c5,c6,rfl⟩ := Zw a4;refine x_l 3 (sv c4 c5 c6) rfl (by kernel_rfl) (fun w' hw' => zo rfl (c3 w' hw')) hS (xms 4 rfl rfl hS (xmi 5 rfl rfl hS ?_));obtain ⟨x60,c7,hs⟩ := bq hs;obtain ⟨c8,c9,d0,a7⟩ := zI Sl56 Sz48 h1 c7;refine xq 6 _ rfl (ip d0 rfl rfl) hS ?_;obtain ⟨f6,d1,a5⟩ := zT Ag48 Sz48 (fun _ => rfl) a7;obtain ⟨d2,d3,d4,rfl⟩ := Zw a5;refine x_l 7 (sv d2 d3 d4) rfl (by kernel_rfl) (fun w' hw' => zo rfl (d1 w' hw')) hS (zN (i := 8) (by kernel_rfl) ?_);obtain ⟨r66,d5,hs⟩ := bq hs;refine zV (b := false) rfl Bd37 rfl (xK (M := M) x56 x60 a4 a5 hO.fut d5) rfl (by rintro _ _ _ ⟨rfl,a2⟩; exact hS.ext a2) ?_;rintro _ b5 ⟨rfl,a2⟩;obtain ⟨h0,h1,a4,a5,a6,a7,hC,hO⟩ := xt8 a2 h0 h1 a4 a5 a6 a7 hC hO;have hS := hS.ext a2;refine xq 9 _ rfl (yc rfl) hS (xe ?_);clear hS;rcases zm hs with ⟨b2,hs⟩ | ⟨b2,hs⟩
  ·refine zl (cb b2) (ze (Za [] Mx rfl ?_));have a3 := Chg.drew b5;generalize World.drew b5 = d6 at a3 ⊢;obtain ⟨h0,h1,a4,a5,a6,a7,hC,hO⟩ := xt8 a3 h0 h1 a4 a5 a6 a7 hC hO;have hS := Chg.refl [] d6;refine xms 0 rfl rfl hS (xmi 1 rfl rfl hS ?_);obtain ⟨x69,d7,hs⟩ := bq hs;obtain ⟨d8,d9,e0,b3⟩ := zI Sl56 Sz48 h0 d7;refine xq 2 _ rfl (ip e0 rfl rfl) hS ?_;obtain ⟨f7,e1,a9⟩ := zT Ag48 Sz48 (fun _ => rfl) b3;obtain ⟨e2,e3,e4,rfl⟩ := Zw a9;refine x_l 3 (sv e2 e3 e4) rfl (by kernel_rfl) (fun w' hw' => zo rfl (e1 w' hw')) hS (xms 4 rfl rfl hS (xmi 5 rfl rfl hS ?_));obtain ⟨x73,e5,hs⟩ := bq hs;obtain ⟨e6,e7,e8,b4⟩ := zI Sl56 Sz48 h1 e5;refine xq 6 _ rfl (ip e8 rfl rfl) hS ?_;obtain ⟨f8,e9,b0⟩ := zT Ag48 Sz48 (fun _ => rfl) b4;obtain ⟨f0,f1,f2,rfl⟩ := Zw b0;refine x_l 7 (sv f0 f1 f2) rfl (by kernel_rfl) (fun w' hw' => zo rfl (e9 w' hw')) hS (zN (i := 8) (by kernel_rfl) ?_);obtain ⟨r78,f3,hs⟩ := bq hs;refine zV (b := false) rfl Bd92 rfl (vJ (M := M) x69 x73 a9 b0 hO.fut f3) rfl (by rintro _ _ _ ⟨rfl,a0⟩; exact hS.ext a0) ?_;rintro _ f9 ⟨rfl,a0⟩;obtain ⟨h0,h1,a4,a5,a9,b0,a6,a7⟩ := xt8 a0 h0 h1 a4 a5 a9 b0 a6 a7;obtain ⟨b3,b4,hC,hO,hS⟩ := xt5 a0 b3 b4 hC hO hS;refine xq 9 (.bool r78) rfl (zG rfl) hS (xe ?_);clear hS;refine wp_ret ?_;cases hs;exact ⟨_,fr_m 41 rfl,hC⟩
  refine zk (cb b2) (wp_skip (zh (mi rfl (za _ (yad rfl rfl) (ai rfl (zb ?_))))));cases hs;exact ⟨_,zF 41 ⟨rfl,rfl,congrArg (Value.int .i64) hw,trivial⟩,hC,hO,h0,h1⟩
 ·exact ⟨_,fr_m 41 rfl,hC,hO,h0,h1⟩
 cases o42 with
 | nx _ => trivial
 | rt r_ =>
  have hs := zr hs;intro f4 b6 hK;cases hs;exact hK
 | br s38 =>
  have hs := zq hs;rintro f4 a1 ⟨σ,rfl,hC,hO,h0,h1⟩;refine c_sr (ab rfl (zb (wp_ret ?_)));cases hs;exact ⟨_,fr_m 41 rfl,hC⟩

def vr (M : Nat → Prop) (w0 : World) (r : Bool) (a : Act) (w : World) : Prop :=
  ∃ σ,a = fr 33 (ovl σ [(4,(.bool r))]) ∧ Chg [] w0 w
def xP (r_ : List (List Int)) (s_ : List (List Int)) : Option (Bool) :=
  (iter (S := Int) (R := Bool) (fun s20 =>
  (bif ((decide (s20 < (r_.length : Int))) && (decide (s20 < (s_.length : Int)))) then (idx r_ s20).bind fun x32 =>
  (idx s_ s20).bind fun x36 =>
  (ZN x32 x36).bind fun r41 =>
  (bif (!r41) then some (.rt false) else some (.nx (w64 (s20 + 1)))) else some (.br s20))) FU 0).bind fun o24 => after o24 (fun r_ => some r_) (fun s20 =>
  some ((r_.length : Int) == (s_.length : Int)))
theorem zaj (r_ : tM) (s_ : tM) (h0 : rm.val M w (sv pa0 pn0 pc0) r_ []) (h1 : rm.val M w (sv pa1 pn1 pc1) s_ []) (hM : Hm w M) {r : Bool} (hs : xP r_ s_ = some r) :
    Gives Tryz.prog 94 [(sv pa0 pn0 pc0),(sv pa1 pn1 pc1)] w (fun v w' => v = (.bool r) ∧ Chg [] w w') := by
 refine zx Tryz.func94 rfl Tryz.ntmps94 (nl rfl) ?_;obtain ⟨hO,hC⟩ := st0 hM;unfold xP at hs;refine wp_k (K := (vr M w r)) (by rintro _ _ ⟨σ,rfl,hrest⟩; exact Zd Tryz.results94 (zH rfl) ⟨rfl,hrest⟩) (c_sr (ab rfl (zb (ze (c_sr (ai rfl (zb ?_)))))));obtain ⟨o24,b4,hs⟩ := bq hs;refine wp_block (ZG (id := 0) (I := fun s20 a a0 => ∃ σ,a = fr 33 (ovl σ [(0,(sv pa0 pn0 pc0)),(1,(sv pa1 pn1 pc1)),(5,(iv s20))]) ∧ Chg [] w a0 ∧ Own (Nw w []) M a0 [] ∧ rm.val M a0 (sv pa0 pn0 pc0) r_ [] ∧ rm.val M a0 (sv pa1 pn1 pc1) s_ []) (J := fun s20 a a0 => ∃ σ,a = fr 33 (ovl σ [(0,(sv pa0 pn0 pc0)),(1,(sv pa1 pn1 pc1))]) ∧ Chg [] w a0 ∧ Own (Nw w []) M a0 [] ∧ rm.val M a0 (sv pa0 pn0 pc0) r_ [] ∧ rm.val M a0 (sv pa1 pn1 pc1) s_ []) (K := (vr M w)) ?_ FU 0 o24 _ _ ?_ b4 ?_)
 ·rintro s20 o24 a a0 ⟨σ,rfl,hC,hO,h0,h1⟩ hs;refine ze (ze (yI (I := fun a a4 => ∃ σ,a = fr 33 (ovl σ [(0,(sv pa0 pn0 pc0)),(1,(sv pa1 pn1 pc1)),(5,(iv s20)),(15,(.bool ((decide (s20 < (r_.length : Int))) && (decide (s20 < (s_.length : Int))))))]) ∧ Chg [] a0 a4) ?_ ?_))
  ·have hMid := Chg.refl [] a0;refine zh (mi rfl (ms rfl (za _ (zt Sl56 (zB h0) rfl) (za _ (zA rfl rfl) (mb rfl ?_)))));rcases Bool.eq_false_or_eq_true ((decide (s20 < (r_.length : Int)))) with a1 | a1
   ·refine py 10 (iv s20) (cb a1) (zD rfl) (py 10 (sv pa1 pn1 pc1) (cb a1) (zD rfl) (py 10 _ (cb a1) (zt Sl56 (zB h1) rfl) (py 10 _ (cb a1) (zA rfl rfl) (za (.bool ((decide (s20 < (r_.length : Int))) && (decide (s20 < (s_.length : Int))))) (yF (cb a1) (cb (by rw [a1]; rfl))) (zb ?_)))));exact ⟨_,fr_m 33 rfl,hMid⟩
   refine pn 10 (cb a1) (pn 10 (cb a1) (pn 10 (cb a1) (pn 10 (cb a1) (za (.bool ((decide (s20 < (r_.length : Int))) && (decide (s20 < (s_.length : Int))))) (yH (cb a1) (cb (by rw [a1]; rfl))) (zb ?_)))));exact ⟨_,fr_m 33 rfl,hMid⟩
  rintro b2 a4 ⟨σ,rfl,a5⟩;obtain ⟨h0,h1,hC,hO⟩ := xt4 a5 h0 h1 hC hO;rcases zm hs with ⟨a8,hs⟩ | ⟨a8,hs⟩
  ·refine zl (cb a8) (wp_skip (ze (wp_block (ze (Za [] Mx rfl ?_)))));have a3 := Chg.drew a4;generalize World.drew a4 = b5 at a3 ⊢;obtain ⟨h0,h1,hC,hO⟩ := xt4 a3 h0 h1 hC hO;have hS := Chg.refl [] b5;refine xms 0 rfl rfl hS (xmi 1 rfl rfl hS ?_);obtain ⟨x32,b6,hs⟩ := bq hs;obtain ⟨b7,b8,b9,a9⟩ := zI Sl56 Sz48 h0 b6;refine xq 2 _ rfl (ip b9 rfl rfl) hS ?_;obtain ⟨d3,c0,a6⟩ := zT Ag48 Sz48 (fun _ => rfl) a9;obtain ⟨c1,c2,c3,rfl⟩ := Zw a6;refine x_l 3 (sv c1 c2 c3) rfl (by kernel_rfl) (fun w' hw' => zo rfl (c0 w' hw')) hS (xms 4 rfl rfl hS (xmi 5 rfl rfl hS ?_));obtain ⟨x36,c4,hs⟩ := bq hs;obtain ⟨c5,c6,c7,b0⟩ := zI Sl56 Sz48 h1 c4;refine xq 6 _ rfl (ip c7 rfl rfl) hS ?_;obtain ⟨d4,c8,a7⟩ := zT Ag48 Sz48 (fun _ => rfl) b0;obtain ⟨c9,d0,d1,rfl⟩ := Zw a7;refine x_l 7 (sv c9 d0 d1) rfl (by kernel_rfl) (fun w' hw' => zo rfl (c8 w' hw')) hS (zN (i := 8) (by kernel_rfl) ?_);obtain ⟨r41,d2,hs⟩ := bq hs;refine zV (b := false) rfl Bd37 rfl (xK (M := M) x32 x36 a6 a7 hO.fut d2) rfl (by rintro _ _ _ ⟨rfl,a2⟩; exact hS.ext a2) ?_;rintro _ d5 ⟨rfl,a2⟩;obtain ⟨h0,h1,a6,a7,a9,b0,hC,hO⟩ := xt8 a2 h0 h1 a6 a7 a9 b0 hC hO;have hS := hS.ext a2;refine xq 9 _ rfl (yc rfl) hS (xe ?_);clear hS;rcases zm hs with ⟨b1,hs⟩ | ⟨b1,hs⟩
   ·refine zl (cb b1) (c_sr (ab rfl (zb (wp_ret ?_))));cases hs;exact ⟨_,fr_m 33 rfl,hC⟩
   refine zk (cb b1) (wp_skip (zh (mi rfl (za _ (yad rfl rfl) (ai rfl (zb ?_))))));cases hs;exact ⟨_,fr_m 33 rfl,hC,hO,h0,h1⟩
  refine zk (cb a8) (wp_exit ?_);cases hs;exact ⟨rfl,_,fr_m 33 rfl,hC,hO,h0,h1⟩
 ·exact ⟨_,fr_m 33 rfl,hC,hO,h0,h1⟩
 cases o24 with
 | nx _ => trivial
 | rt r_ =>
  have hs := zr hs;intro b2 b3 hK;cases hs;exact hK
 | br s20 =>
  have hs := zq hs;rintro b2 a0 ⟨σ,rfl,hC,hO,h0,h1⟩;refine c_sr (ms rfl (za _ (zt Sl56 (zB h0) rfl) (ms rfl (za _ (zt Sl56 (zB h1) rfl) (za (.bool ((r_.length : Int) == (s_.length : Int))) (xn rfl rfl) (ab rfl (zb (wp_ret ?_))))))));cases hs;exact ⟨_,fr_m 33 rfl,hC⟩

theorem Sl35 : SlT Tryz.prog 35 56 := Tryz.underlying35

theorem Sz56 : SzT Tryz.prog 56 1 := ⟨_,rfl,rfl⟩

theorem Ag56 : AggT Tryz.prog 56 false := fun _ => by kernel_rfl

theorem Bd93 : zK Tryz.prog 93 := zP Tryz.func93 (by kernel_rfl) rfl

theorem Bd94 : zK Tryz.prog 94 := zP Tryz.func94 (by kernel_rfl) rfl

theorem Rw35 : RowT Tryz.prog 35 56 1 [(.slice none 0 0)] := ⟨Tryz.underlying35,⟨_,_,rfl,rfl,rfl,rfl,by decide⟩,rfl,by decide⟩

def vM (M : Nat → Prop) (w0 : World) (r : (List tM)) (a : Act) (w : World) : Prop :=
  ∃ σ ra0 rn0 rc0,a = fr 45 (ovl σ [(4,(sv ra0 rn0 rc0))]) ∧ Chg [] w0 w ∧ (RT.rs rm).val (Past M w0 w) w (sv ra0 rn0 rc0) r []
def Ya (list : List (List (List Int))) (r_ : List (List Int)) : Option ((List (List (List Int)))) :=
  (iter (S := Int) (R := (List (List (List Int)))) (fun s11 =>
  (bif (decide (s11 < (list.length : Int))) then (idx list s11).bind fun x18 =>
  (YK x18 r_).bind fun r23 =>
  (bif r23 then some (.nx (w64 (s11 + 1))) else some (.br s11)) else some (.br s11))) FU 0).bind fun o15 => after o15 (fun r_ => some r_) (fun s11 =>
  ((bif (decide (s11 < (list.length : Int))) then (idx list s11).bind fun x29 =>
  (xP x29 r_).bind fun r34 =>
  some r34 else some false)).bind fun s25 =>
  (bif s25 then some list else (slc list 0 s11).bind fun y38 =>
  (slc list s11 (list.length : Int)).bind fun y41 =>
  (app ([]) y38).bind fun y47 =>
  (app y47 ([r_])).bind fun y52 =>
  (app y52 y41).bind fun y55 =>
  some y55))
theorem zab (list : List tM) (r_ : tM) (h0 : (RT.rs rm).val M w (sv pa0 pn0 pc0) list []) (h1 : rm.val M w (sv pa1 pn1 pc1) r_ []) (hM : Hm w M) {r : (List tM)} (hs : Ya list r_ = some r) :
    Gives Tryz.prog 52 [(sv pa0 pn0 pc0),(sv pa1 pn1 pc1)] w (fun v w' => ∃ ra0 rn0 rc0,v = (sv ra0 rn0 rc0) ∧ Chg [] w w' ∧ (RT.rs rm).val (Past M w w') w' (sv ra0 rn0 rc0) r []) := by
 refine zx Tryz.func52 rfl Tryz.ntmps52 (nl rfl) ?_;obtain ⟨hO,hC⟩ := st0 hM;unfold Ya at hs;refine wp_k (K := (vM M w r)) (by rintro _ _ ⟨σ,ra0,rn0,rc0,rfl,hrest⟩; exact Zd Tryz.results52 (zH rfl) ⟨ra0,rn0,rc0,rfl,hrest⟩) (c_sr (ax rfl (zb (c_sr (ai rfl (zb (ze ?_)))))));obtain ⟨o15,k7,hs⟩ := bq hs;refine wp_block (ZG (id := 0) (I := fun s11 a a4 => ∃ σ,a = fr 45 (ovl σ [(0,(sv pa0 pn0 pc0)),(1,(sv pa1 pn1 pc1)),(5,(iv s11))]) ∧ Chg [] w a4 ∧ Own (Nw w []) M a4 [] ∧ (RT.rs rm).val M a4 (sv pa0 pn0 pc0) list [] ∧ rm.val M a4 (sv pa1 pn1 pc1) r_ []) (J := fun s11 a a4 => ∃ σ,a = fr 45 (ovl σ [(0,(sv pa0 pn0 pc0)),(1,(sv pa1 pn1 pc1)),(5,(iv s11))]) ∧ Chg [] w a4 ∧ Own (Nw w []) M a4 [] ∧ (RT.rs rm).val M a4 (sv pa0 pn0 pc0) list [] ∧ rm.val M a4 (sv pa1 pn1 pc1) r_ []) (K := (vM M w)) ?_ FU 0 o15 _ _ ?_ k7 ?_)
 ·rintro s11 o15 a a4 ⟨σ,rfl,hC,hO,h0,h1⟩ hs;refine ze (c_sr (mi rfl (ms rfl (za _ (zt Sl35 (zB h0) rfl) (za _ (zA rfl rfl) (mb rfl ?_))))));rcases zm hs with ⟨a2,hs⟩ | ⟨a2,hs⟩
  ·refine py 10 (sv pa0 pn0 pc0) (cb a2) (zD rfl) (py 10 (iv s11) (cb a2) (zD rfl) ?_);obtain ⟨x18,k8,hs⟩ := bq hs;obtain ⟨k9,l0,l1,f9⟩ := zI Sl35 Sz56 h0 k8;refine py 10 _ (cb a2) (ip l1 rfl rfl) ?_;obtain ⟨t5,l2,e3⟩ := zT Ag56 Sz56 (fun _ => rfl) f9;obtain ⟨l3,l4,l5,rfl⟩ := Zw e3;refine py 10 (sv l3 l4 l5) (cb a2) (zo rfl (l2 _ (Chg.refl _ _))) (py 10 (sv pa1 pn1 pc1) (cb a2) (zD rfl) ?_);obtain ⟨r23,l6,hs⟩ := bq hs;refine Xm (tg := 10) (by kernel_rfl) (cb a2) Bd93 rfl (VW (M := M) x18 r_ e3 h1 hO.fut l6) ?_;rintro _ t6 ⟨rfl,b5⟩;obtain ⟨h0,h1,e3,f9,hC,hO⟩ := xt6 b5 h0 h1 e3 f9 hC hO;refine za _ (ptb (cb a2) rfl) (zb ?_);rcases zm hs with ⟨g0,hs⟩ | ⟨g0,hs⟩
   ·refine zl (cb g0) (wp_skip (wp_block (zh (mi rfl (za _ (yad rfl rfl) (ai rfl (zb ?_)))))));cases hs;exact ⟨_,fr_m 45 rfl,hC,hO,h0,h1⟩
   refine zk (cb g0) (wp_exit ?_);cases hs;exact ⟨rfl,_,fr_m 45 rfl,hC,hO,h0,h1⟩
  refine pn 10 (cb a2) (pn 10 (cb a2) (pn 10 (cb a2) (pn 10 (cb a2) (pn 10 (cb a2) (pn 10 (cb a2) (za _ (pfb (cb a2) rfl) (zb (zk (by rfl) (wp_exit ?_)))))))));cases hs;exact ⟨rfl,_,fr_m 45 rfl,hC,hO,h0,h1⟩
 ·exact ⟨_,fr_m 45 rfl,hC,hO,h0,h1⟩
 cases o15 with
 | nx _ => trivial
 | rt r_ =>
  have hs := zr hs;intro i7 k6 hK;cases hs;exact hK
 | br s11 =>
  have hs := zq hs;rintro i7 a4 ⟨σ,rfl,hC,hO,h0,h1⟩;refine ze (ze ?_);obtain ⟨s25,l7,hs⟩ := bq hs;refine yI (I := fun a e4 => ∃ σ,a = fr 45 (ovl σ [(0,(sv pa0 pn0 pc0)),(1,(sv pa1 pn1 pc1)),(5,(iv s11)),(31,(.bool s25))]) ∧ Chg [] a4 e4) ?_ ?_
  ·replace hs := l7;have hMid := Chg.refl [] a4;refine zh (mi rfl (ms rfl (za _ (zt Sl35 (zB h0) rfl) (za _ (zA rfl rfl) (mb rfl ?_)))));rcases zm hs with ⟨a3,hs⟩ | ⟨a3,hs⟩
   ·refine py 24 (sv pa0 pn0 pc0) (cb a3) (zD rfl) (py 24 (iv s11) (cb a3) (zD rfl) ?_);obtain ⟨x29,l8,hs⟩ := bq hs;obtain ⟨l9,m0,m1,g1⟩ := zI Sl35 Sz56 h0 l8;refine py 24 _ (cb a3) (ip m1 rfl rfl) ?_;obtain ⟨t7,m2,e5⟩ := zT Ag56 Sz56 (fun _ => rfl) g1;obtain ⟨m3,m4,m5,rfl⟩ := Zw e5;refine py 24 (sv m3 m4 m5) (cb a3) (zo rfl (m2 _ (Chg.refl _ _))) (py 24 (sv pa1 pn1 pc1) (cb a3) (zD rfl) ?_);obtain ⟨r34,m6,hs⟩ := bq hs;refine Xm (tg := 24) (by kernel_rfl) (cb a3) Bd94 rfl (zaj (M := M) x29 r_ e5 h1 hO.fut m6) ?_;rintro _ t8 ⟨rfl,b0⟩;obtain ⟨h0,h1,e5,hMid,g1,hC,hO⟩ := xt7 b0 h0 h1 e5 hMid g1 hC hO;refine za _ (ptb (cb a3) rfl) (zb ?_);cases hs;exact ⟨_,fr_m 45 rfl,hMid⟩
   refine pn 24 (cb a3) (pn 24 (cb a3) (pn 24 (cb a3) (pn 24 (cb a3) (pn 24 (cb a3) (pn 24 (cb a3) (za _ (pfb (cb a3) rfl) (zb ?_)))))));cases hs;exact ⟨_,fr_m 45 rfl,hMid⟩
  rintro i7 e4 ⟨σ,rfl,e6⟩;obtain ⟨h0,h1,hC,hO⟩ := xt4 e6 h0 h1 hC hO;rcases zm hs with ⟨g2,hs⟩ | ⟨g2,hs⟩
  ·refine zl (cb g2) (c_sr (ms rfl (ax rfl (zb (wp_ret ?_)))));cases hs;exact ⟨_,pa0,pn0,pc0,fr_m 45 rfl,hC,(Keeps.out Keeps.refl h0)⟩
  refine zk (cb g2) (wp_skip (ze (Za [4,7,11] Mx rfl ?_)));have c8 := Chg.drew e4;generalize World.drew e4 = g3 at c8 ⊢;obtain ⟨h0,h1,hC,hO⟩ := xt4 c8 h0 h1 hC hO;have hS := Chg.refl [] g3;refine xms 1 rfl rfl hS (xmi 2 rfl rfl hS ?_);obtain ⟨y38,m7,hs⟩ := bq hs;obtain ⟨m8,m9,n0,a0,t9,n1,u0⟩ := Ub Tryz.underlying35 Sz56 h0 m7;refine xq 3 (sv m8 m9 n0) rfl (uV rfl rfl rfl (n1 rfl _)) hS (xms 5 rfl rfl hS (xms 8 rfl rfl hS (xmi 9 rfl rfl hS ?_)));obtain ⟨y41,n2,hs⟩ := bq hs;obtain ⟨n3,n4,n5,a1,u1,u2,n6⟩ := Ub Tryz.underlying35 Sz56 h0 n2;refine xq 10 (sv n3 n4 n5) rfl (uV rfl rfl rfl (n6 rfl _)) hS (XR (i := 0) (j := 6) (by kernel_rfl) ?_ ?_)
  ·obtain ⟨g4,g5,n7,i9,a8,j0⟩ := zg g3 [] 56;refine zO (w' := g4) (b := false) (sv (some ⟨g5,0,none⟩) 0 0) rfl (zy rfl (by rw [n7,i9]; kernel_rfl)) rfl (fun _ => hS.ext a8) ?_;obtain ⟨h0,h1,a0,a1,hC⟩ := xt5 a8 h0 h1 a0 a1 hC;have hO := hO.new1 a8 i9 j0.lt;have b6 := os0 (r := (RT.os 48 (RT.os 3 ri))) (M := M) j0;have hS := hS.ext a8;refine XR (i := 4) (j := 6) (by kernel_rfl) ?_ ?_
   ·obtain ⟨b7,u3,e7,n8,hO,j1⟩ := Zj (Frz.os (Frz.os Frz.int)) b6 hO;obtain ⟨h0,h1,a0,a1⟩ := su4 e7 h0 h1 a0 a1;have hK := n8;obtain ⟨y47,c9,hs⟩ := bq hs;obtain ⟨n9,o0,o1,j2,u4,o2,b8,o3,b9⟩ := yO Rw35 c9 j1 a0 hO.inM;have d0 := zw j1;refine zO (w' := j2) (b := true) (sv n9 o0 o1) rfl (zJ rfl rfl (o2 _)) rfl (fun h => nomatch h) ?_;have h0 := h0.mt b8 hO d0;have h1 := h1.mt b8 hO d0;have a0 := a0.mt b8 hO d0;have a1 := a1.mt b8 hO d0;have hC := hC.st b8 hO d0;have hO := hO.grow b8 o3 (zu b9) b9.fpl;refine zN (i := 6) (by kernel_rfl) ?_;obtain ⟨j3,g6,o4,j4,b1,j5⟩ := zg j2 [(sv pa1 pn1 pc1)] 56;refine zO (w' := j3) (b := true) (sv (some ⟨g6,0,none⟩) 1 1) rfl (zy rfl (by rw [o4,j4]; kernel_rfl)) rfl (fun h => nomatch h) ?_;obtain ⟨h0,h1,a0,a1,b9,hC⟩ := xt6 b1 h0 h1 a0 a1 b9 hC;have hO := hO.new1 b1 j4 j5.lt;have g7 := zQ (r := rm) (M := b7) (css := [[(sv pa1 pn1 pc1)]]) (fps := [([] : List Nat)]) (xs := ([r_] : List tM)) j5 ⟨(ZX h1),trivial⟩ (nl rfl) nd1;have g7 : (RT.os 56 rm).val b7 j3 (sv (some ⟨g6,0,none⟩) 1 1) [r_] [g6] := g7;refine zN (i := 7) (by kernel_rfl) ?_;obtain ⟨y52,d1,hs⟩ := bq hs;have hO := hO.fr1;obtain ⟨o5,o6,o7,o8,u5,o9,c0,p0,e8⟩ := Zg Rw35 d1 b9 g7 hO.inM (fun g hg hq => hO.apart g hq (zn hg));have d2 := zw b9;refine zO (w' := o8) (b := true) (sv o5 o6 o7) rfl (zJ rfl rfl (o9 _)) rfl (fun h => nomatch h) ?_;have hO := hO.fr1.fr1;have h0 := h0.mt c0 hO d2;have h1 := h1.mt c0 hO d2;have a0 := a0.mt c0 hO d2;have a1 := a1.mt c0 hO d2;have hC := hC.st c0 hO d2;have hO := hO.eat c0 p0 (zu e8) e8.fpl;refine zN (i := 11) (by kernel_rfl) ?_;obtain ⟨y55,d3,hs⟩ := bq hs;obtain ⟨g8,g9,h2,p1,u6,p2,c1,p3,h3⟩ := yO Rw35 d3 e8 a1 hO.inM;have d4 := zw e8;refine zO (w' := p1) (b := true) (sv g8 g9 h2) rfl (zJ rfl rfl (p2 _)) rfl (fun h => nomatch h) ?_;have h0 := h0.mt c1 hO d4;have h1 := h1.mt c1 hO d4;have a0 := a0.mt c1 hO d4;have a1 := a1.mt c1 hO d4;have hC := hC.st c1 hO d4;have hO := hO.grow c1 p3 (zu h3) h3.fpl;refine x_p 12 (sv g8 g9 h2) rfl (by kernel_rfl) (fun _ => zG rfl) (fun h => nomatch h) (xe ?_);clear hS;refine wp_ret ?_;cases hs;obtain ⟨e9,u7,f0,p4,hO,p5⟩ := Zm (Frz.os (Frz.rs (Frz.rs Frz.int))) h3 hO;obtain ⟨h0,h1,a0,a1⟩ := su4 f0 h0 h1 a0 a1;have hK := hK.trans p4;exact ⟨_,g8,g9,h2,fr_m 45 rfl,hC,(Keeps.out hK p5)⟩
   ·obtain ⟨j6,h4,p6,j7,a5,j8⟩ := zg g4 [(sv pa1 pn1 pc1)] 56;refine zO (w' := j6) (b := false) (sv (some ⟨h4,0,none⟩) 1 1) rfl (zy rfl (by rw [p6,j7]; kernel_rfl)) rfl (fun _ => hS.ext a5) ?_;obtain ⟨h0,h1,a0,a1,b6,hC⟩ := xt6 a5 h0 h1 a0 a1 b6 hC;have hO := hO.new1 a5 j7 j8.lt;have b2 := zQ (r := rm) (M := M) (css := [[(sv pa1 pn1 pc1)]]) (fps := [([] : List Nat)]) (xs := ([r_] : List tM)) j8 ⟨(ZX h1),trivial⟩ (nl rfl) nd1;have b2 : (RT.os 56 rm).val M j6 (sv (some ⟨h4,0,none⟩) 1 1) [r_] [h4] := b2;have hS := hS.ext a5;refine zN (i := 4) (by kernel_rfl) ?_;have hO := hO.fr1;obtain ⟨d5,u9,d6,p7,hO,j9⟩ := Zj (Frz.os (Frz.os Frz.int)) b6 hO;obtain ⟨h0,h1,a0,a1,b2⟩ := su5 d6 h0 h1 a0 a1 b2;have hK := p7;obtain ⟨y47,c9,hs⟩ := bq hs;obtain ⟨p8,p9,q0,q1,v0,q2,b3,q3,f1⟩ := yO Rw35 c9 j9 a0 hO.inM;have c2 := zw j9;refine zO (w' := q1) (b := true) (sv p8 p9 q0) rfl (zJ rfl rfl (q2 _)) rfl (fun h => nomatch h) ?_;have h0 := h0.mt b3 hO c2;have h1 := h1.mt b3 hO c2;have a0 := a0.mt b3 hO c2;have a1 := a1.mt b3 hO c2;have b2 := b2.ma b3 hO c2 (fun _ e => (zn (e)));have hC := hC.st b3 hO c2;have hO := hO.grow b3 q3 (zu f1) f1.fpl;refine zN (i := 7) (by kernel_rfl) ?_;obtain ⟨y52,d1,hs⟩ := bq hs;have hO := hO.fr1.fr1;obtain ⟨q4,q5,q6,q7,v1,q8,c3,q9,f2⟩ := Zg Rw35 d1 f1 b2 hO.inM (fun g hg hq => hO.apart g hq (zn hg));have d7 := zw f1;refine zO (w' := q7) (b := true) (sv q4 q5 q6) rfl (zJ rfl rfl (q8 _)) rfl (fun h => nomatch h) ?_;have hO := hO.fr1.fr1;have h0 := h0.mt c3 hO d7;have h1 := h1.mt c3 hO d7;have a0 := a0.mt c3 hO d7;have a1 := a1.mt c3 hO d7;have hC := hC.st c3 hO d7;have hO := hO.eat c3 q9 (zu f2) f2.fpl;refine zN (i := 11) (by kernel_rfl) ?_;obtain ⟨y55,d3,hs⟩ := bq hs;obtain ⟨h5,h6,h7,r0,v2,r1,c4,r2,h8⟩ := yO Rw35 d3 f2 a1 hO.inM;have d8 := zw f2;refine zO (w' := r0) (b := true) (sv h5 h6 h7) rfl (zJ rfl rfl (r1 _)) rfl (fun h => nomatch h) ?_;have h0 := h0.mt c4 hO d8;have h1 := h1.mt c4 hO d8;have a0 := a0.mt c4 hO d8;have a1 := a1.mt c4 hO d8;have hC := hC.st c4 hO d8;have hO := hO.grow c4 r2 (zu h8) h8.fpl;refine x_p 12 (sv h5 h6 h7) rfl (by kernel_rfl) (fun _ => zG rfl) (fun h => nomatch h) (xe ?_);clear hS;refine wp_ret ?_;cases hs;obtain ⟨f3,v3,f4,r3,hO,r4⟩ := Zm (Frz.os (Frz.rs (Frz.rs Frz.int))) h8 hO;obtain ⟨h0,h1,a0,a1⟩ := su4 f4 h0 h1 a0 a1;have hK := hK.trans r3;exact ⟨_,h5,h6,h7,fr_m 45 rfl,hC,(Keeps.out hK r4)⟩
  ·obtain ⟨h9,i0,r5,k0,a9,k1⟩ := zg g3 [(sv pa1 pn1 pc1)] 56;refine zO (w' := h9) (b := false) (sv (some ⟨i0,0,none⟩) 1 1) rfl (zy rfl (by rw [r5,k0]; kernel_rfl)) rfl (fun _ => hS.ext a9) ?_;obtain ⟨h0,h1,a0,a1,hC⟩ := xt5 a9 h0 h1 a0 a1 hC;have hO := hO.new1 a9 k0 k1.lt;have a6 := zQ (r := rm) (M := M) (css := [[(sv pa1 pn1 pc1)]]) (fps := [([] : List Nat)]) (xs := ([r_] : List tM)) k1 ⟨(ZX h1),trivial⟩ (nl rfl) nd1;have a6 : (RT.os 56 rm).val M h9 (sv (some ⟨i0,0,none⟩) 1 1) [r_] [i0] := a6;have hS := hS.ext a9;refine zN (i := 0) (by kernel_rfl) ?_;obtain ⟨k2,i1,r6,k3,a7,k4⟩ := zg h9 [] 56;refine zO (w' := k2) (b := false) (sv (some ⟨i1,0,none⟩) 0 0) rfl (zy rfl (by rw [r6,k3]; kernel_rfl)) rfl (fun _ => hS.ext a7) ?_;obtain ⟨h0,h1,a0,a1,a6,hC⟩ := xt6 a7 h0 h1 a0 a1 a6 hC;have hO := hO.new1 a7 k3 k4.lt;have i2 := os0 (r := (RT.os 48 (RT.os 3 ri))) (M := M) k4;have hS := hS.ext a7;refine zN (i := 4) (by kernel_rfl) ?_;obtain ⟨d9,v4,e0,r7,hO,k5⟩ := Zj (Frz.os (Frz.os Frz.int)) i2 hO;obtain ⟨h0,h1,a0,a1,a6⟩ := su5 e0 h0 h1 a0 a1 a6;have hK := r7;obtain ⟨y47,c9,hs⟩ := bq hs;obtain ⟨r8,r9,s0,s1,v5,s2,b4,s3,f5⟩ := yO Rw35 c9 k5 a0 hO.inM;have c5 := zw k5;refine zO (w' := s1) (b := true) (sv r8 r9 s0) rfl (zJ rfl rfl (s2 _)) rfl (fun h => nomatch h) ?_;have h0 := h0.mt b4 hO c5;have h1 := h1.mt b4 hO c5;have a0 := a0.mt b4 hO c5;have a1 := a1.mt b4 hO c5;have a6 := a6.ma b4 hO c5 (fun _ e => (zn (e)));have hC := hC.st b4 hO c5;have hO := hO.grow b4 s3 (zu f5) f5.fpl;refine zN (i := 7) (by kernel_rfl) ?_;obtain ⟨y52,d1,hs⟩ := bq hs;have hO := hO.fr1.fr1;obtain ⟨s4,s5,s6,s7,v6,s8,c6,s9,f6⟩ := Zg Rw35 d1 f5 a6 hO.inM (fun g hg hq => hO.apart g hq (zn hg));have e1 := zw f5;refine zO (w' := s7) (b := true) (sv s4 s5 s6) rfl (zJ rfl rfl (s8 _)) rfl (fun h => nomatch h) ?_;have hO := hO.fr1.fr1;have h0 := h0.mt c6 hO e1;have h1 := h1.mt c6 hO e1;have a0 := a0.mt c6 hO e1;have a1 := a1.mt c6 hO e1;have hC := hC.st c6 hO e1;have hO := hO.eat c6 s9 (zu f6) f6.fpl;refine zN (i := 11) (by kernel_rfl) ?_;obtain ⟨y55,d3,hs⟩ := bq hs;obtain ⟨i3,i4,i5,t0,v7,t1,c7,t2,i6⟩ := yO Rw35 d3 f6 a1 hO.inM;have e2 := zw f6;refine zO (w' := t0) (b := true) (sv i3 i4 i5) rfl (zJ rfl rfl (t1 _)) rfl (fun h => nomatch h) ?_;have h0 := h0.mt c7 hO e2;have h1 := h1.mt c7 hO e2;have a0 := a0.mt c7 hO e2;have a1 := a1.mt c7 hO e2;have hC := hC.st c7 hO e2;have hO := hO.grow c7 t2 (zu i6) i6.fpl;refine x_p 12 (sv i3 i4 i5) rfl (by kernel_rfl) (fun _ => zG rfl) (fun h => nomatch h) (xe ?_);clear hS;refine wp_ret ?_;cases hs;obtain ⟨f7,v8,f8,t3,hO,t4⟩ := Zm (Frz.os (Frz.rs (Frz.rs Frz.int))) i6 hO;obtain ⟨h0,h1,a0,a1⟩ := su4 f8 h0 h1 a0 a1;have hK := hK.trans t3;exact ⟨_,i3,i4,i5,fr_m 45 rfl,hC,(Keeps.out hK t4)⟩

theorem Bd49 : zK Tryz.prog 49 := zP Tryz.func49 (by kernel_rfl) rfl

theorem Bd50 : zK Tryz.prog 50 := zP Tryz.func50 (by kernel_rfl) rfl

theorem Bd52 : zK Tryz.prog 52 := zP Tryz.func52 (by kernel_rfl) rfl

end Go.Proofs
