/- What functions of the program compute, as plain functions, and that a call gives just that. Conditions: those named in each theorem. -/
import Derived.Test.YtlfpejnpjpmejaaGreatDoorF2
set_option linter.unusedVariables false
namespace Go.Proofs
open Go.G Go.RowKit
set_option maxRecDepth 100000
set_option maxHeartbeats 4000000
variable {M : Nat → Prop} {w : World} {pa0 pa1 pa2 pa3 pa4 pa5 pa6 pa7 : Option Addr} {pn0 pc0 pn1 pc1 pn2 pc2 pn3 pc3 pn4 pc4 pn5 pc5 pn6 pc6 pn7 pc7 : Nat}

def Yn (M : Nat → Prop) (w0 : World) {α_ : Type} (I_ : World → List α_ → Prop) (G_ : List Nat) (r : (List α_)) (a : Act) (w : World) : Prop :=
  ∃ σ,a = fr 35 (ovl σ []) ∧ Chg (G_ ++ []) w0 w ∧ I_ w r
def Zz {α_ : Type} (ls_ : α_ → α_ → Option Bool) (d_ : List α_) (a_ : Int) (b : Int) : Option ((List α_)) :=
  (forC (S := (List α_)) (R := (List α_)) (fun k78 s76 =>
  (iter (S := Int × (List α_)) (R := (List α_)) (fun s103 =>
  ((bif (decide (a_ < s103.1)) then (lsx ls_ s103.2 s103.1 (w64 (s103.1 - 1))).bind fun r116 =>
  some r116 else some false)).bind fun s111 =>
  (bif s111 then (swx s103.2 s103.1 (w64 (s103.1 - 1))).bind fun y119 =>
  some (.nx (w64 (s103.1 - 1),y119)) else some (.br (s103.1,s103.2)))) FU (k78,s76)).bind fun o107 => after o107 (fun r_ => some (.rt r_)) (fun s103 =>
  some (.nx s103.2))) (w64 (a_ + 1)) b d_).bind fun o80 => after o80 (fun r_ => some r_) (fun s76 =>
  some s76)
theorem xE {α_ : Type} {n0_ : Nat} {I_ : World → List α_ → Prop} {G_ : List Nat} {g_ sf_ : Nat} {lb_ sb_ : Array Value} (ls_ : α_ → α_ → Option Bool) (d_ : List α_) (a_ : Int) (b : Int) (hN_ : n0_ ≤ w.heap.size) (hE_ : Env Tryz.prog n0_ I_ G_ ls_ g_ lb_ sf_ sb_) (hI_ : I_ w d_) (hI : Own (Nw w (G_ ++ [])) M w (G_ ++ [])) (hM : Hm w M) {r : (List α_)} (hs : Zz ls_ d_ a_ b = some r) :
    Gives Tryz.prog 139 [(.agg #[(.func (.func g_) #[] lb_),(.func (.func sf_) #[] sb_)]),(iv a_),(iv b)] w (fun v w' => v = (.tuple #[]) ∧ Chg (G_ ++ []) w w' ∧ I_ w' r) := by
 refine zx Tryz.func139 rfl Tryz.ntmps139 (nl rfl) ?_;have hO := hI;have hC := Chg.refl (G_ ++ []) w;unfold Zz at hs;refine wp_mono (Q := WM (Yn M w I_ G_ r)) ?_ (fun e a a7 h => ?_);rotate_left
 ·cases e
  case ret =>
   obtain ⟨σ,rfl,hrest⟩ := h;exact uA Tryz.results139  ⟨rfl,hrest⟩
  case normal =>
   obtain ⟨σ,rfl,hrest⟩ := h;exact ur Tryz.results139  ⟨rfl,hrest⟩
  all_goals exact (h : False).elim
 refine c_sr ?_;obtain ⟨a7,a1,b6,b4,b0,a0⟩ := zg w [(.func (.func g_) #[] lb_),(.func (.func sf_) #[] sb_)] 153;refine za (w' := a7) (pq a1 0) (Zx rfl (by rw [b6,b4]; kernel_rfl)) ?_;have hI_ := hE_.ext hI_ b0 (fun _ h => nomatch h);have hC := hC.ext b0;have hO := hO.new1 b0 b4 a0.lt;refine zb (c_sr (mi rfl (za _ (yad rfl rfl) (ai rfl (zb ?_)))));obtain ⟨o80,b7,hs⟩ := bq hs;refine wp_block (zU (id := 0) b (I := fun k78 s76 a a4 => ∃ σ,a = fr 35 (ovl σ [(1,(iv a_)),(2,(iv b)),(3,(pq a1 0)),(6,(iv k78))]) ∧ Chg (G_ ++ []) w a4 ∧ Own (Nw w (G_ ++ [])) M a4 ([a1] ++ (G_ ++ [])) ∧ I_ a4 s76 ∧ BoxV a4 a1 153 [(.func (.func g_) #[] lb_),(.func (.func sf_) #[] sb_)]) (J := fun s76 a a4 => ∃ σ,a = fr 35 (ovl σ []) ∧ Chg (G_ ++ []) w a4 ∧ Own (Nw w (G_ ++ [])) M a4 ([a1] ++ (G_ ++ [])) ∧ I_ a4 s76 ∧ BoxV a4 a1 153 [(.func (.func g_) #[] lb_),(.func (.func sf_) #[] sb_)]) (K := (Yn M w I_ G_)) ?_ ?_ (w64 (a_ + 1)) d_ o80 _ _ ?_ b7 ?_)
 ·rintro k78 s76 a a4 ⟨σ,rfl,hC,hO,b1,a0⟩ hlt;refine ze (c_sr (mi rfl (mi rfl (za _ (zA rfl rfl) (zb (zk (df hlt) (wp_exit ?_)))))));have hO := hO.fr1.fr1;exact ⟨rfl,_,zF 35 trivial,hC,hO,b1,a0⟩
 ·rintro k78 s76 o80 a a4 ⟨σ,rfl,hC,hO,b1,a0⟩ hlt hw hs;refine ze (c_sr (mi rfl (mi rfl (za _ (zA rfl rfl) (zb (zl (dt hlt) (wp_skip (ze (wp_block (c_sr (mi rfl (ai rfl (zb ?_)))))))))))));obtain ⟨o107,b8,hs⟩ := bq hs;refine wp_block (ZG (id := 2) (I := fun s103 a a3 => ∃ σ,a = fr 35 (ovl σ [(1,(iv a_)),(2,(iv b)),(3,(pq a1 0)),(6,(iv k78)),(7,(iv s103.1))]) ∧ Chg (G_ ++ []) w a3 ∧ Own (Nw w (G_ ++ [])) M a3 ([a1] ++ (G_ ++ [])) ∧ I_ a3 s103.2 ∧ BoxV a3 a1 153 [(.func (.func g_) #[] lb_),(.func (.func sf_) #[] sb_)]) (J := fun s103 a a3 => ∃ σ,a = fr 35 (ovl σ [(1,(iv a_)),(2,(iv b)),(3,(pq a1 0)),(6,(iv k78))]) ∧ Chg (G_ ++ []) w a3 ∧ Own (Nw w (G_ ++ [])) M a3 ([a1] ++ (G_ ++ [])) ∧ I_ a3 s103.2 ∧ BoxV a3 a1 153 [(.func (.func g_) #[] lb_),(.func (.func sf_) #[] sb_)]) (K := (Yn M w I_ G_)) ?_ FU (k78,s76) o107 _ _ ?_ b8 ?_)
  ·rintro s103 o107 a a3 ⟨σ,rfl,hC,hO,a5,a0⟩ hs;refine ze (ze ?_);obtain ⟨s111,b9,hs⟩ := bq hs;refine yI (I := fun a b5 => ∃ σ,a = fr 35 (ovl σ [(1,(iv a_)),(2,(iv b)),(3,(pq a1 0)),(6,(iv k78)),(7,(iv s103.1)),(26,(.bool s111))]) ∧ Chg [] a3 b5) ?_ ?_
   ·replace hs := b9;have hMid := Chg.refl [] a3;refine zh (mi rfl (mi rfl (za _ (xg rfl rfl) (mb rfl ?_))));rcases zm hs with ⟨a2,hs⟩ | ⟨a2,hs⟩
    ·refine py 19 (pq a1 0) (cb a2) (zj rfl uX) (py 19 _ (cb a2) (ld rfl Ag137 Sz137 a0 rfl) (py 19 (iv s103.1) (cb a2) (zD rfl) (py 19 (iv s103.1) (cb a2) (zD rfl) (py 19 _ (cb a2) (ysu rfl rfl) ?_))));obtain ⟨r116,c0,hs⟩ := bq hs;refine pl_callby (tg := 19) (by kernel_rfl) (cb a2) rfl hE_.bod rfl (hE_.less a5 c0) ?_;rintro _ c7 ⟨rfl,a6⟩;have a5 := hE_.ext a5 a6 (fun _ h => nomatch h);obtain ⟨a0,hMid,hC,hO⟩ := xt4 a6 a0 hMid hC hO;refine za _ (ptb (cb a2) rfl) (zb ?_);cases hs;exact ⟨_,fr_m 35 rfl,hMid⟩
    refine pn 19 (cb a2) (pn 19 (cb a2) (pn 19 (cb a2) (pn 19 (cb a2) (pn 19 (cb a2) (pn 19 (cb a2) (za _ (pfb (cb a2) rfl) (zb ?_)))))));cases hs;exact ⟨_,fr_m 35 rfl,hMid⟩
   rintro a8 b5 ⟨σ,rfl,a9⟩;have a5 := hE_.ext a5 a9 (fun _ h => nomatch h);obtain ⟨a0,hC,hO⟩ := xt3 a9 a0 hC hO;rcases zm hs with ⟨b2,hs⟩ | ⟨b2,hs⟩
   ·refine zl (cb b2) (wp_skip (ze (wp_block (zh (za (pq a1 1) (zj rfl Ua) (za _ (ld rfl Ag149 Sz149 a0 rfl) (mi rfl (mi rfl (za _ (ysu rfl rfl) ?_)))))))));obtain ⟨y119,c1,hs⟩ := bq hs;obtain ⟨c2,c3,b3,c4⟩ := hE_.swap a5 c1;refine za (w' := c2) (.tuple #[]) (VK rfl rfl c3) ?_;have hO := hO.fr1;have a0 := a0.ap b3 hO zf mS;have hC := hC.st b3 hO zf;have hO := hO.ext b3;refine zb (zh (mi rfl (za _ (ysu rfl rfl) (ai rfl (zb ?_)))));cases hs;have hO := hO.fr1;exact ⟨_,fr_m 35 rfl,hC,hO,c4,a0⟩
   refine zk (cb b2) (wp_exit ?_);cases hs;have hO := hO.fr1.fr1;exact ⟨rfl,_,fr_m 35 rfl,hC,hO,a5,a0⟩
  ·have hO := hO.fr1.fr1;exact ⟨_,fr_m 35 rfl,hC,hO,b1,a0⟩
  cases o107 with
  | nx _ => trivial
  | rt r_ =>
   have hs := zr hs;intro a8 a7 hK;cases hs;exact hK
  | br s103 =>
   have hs := zq hs;rintro a8 a3 ⟨σ,rfl,hC,hO,c5,a0⟩;refine zh (mi rfl (za _ (yad rfl rfl) (ai rfl (zb ?_))));cases hs;have hO := hO.fr1.fr1;exact ⟨_,zF 35 ⟨rfl,rfl,rfl,congrArg (Value.int .i64) hw,trivial⟩,hC,hO,c5,a0⟩
 ·have hO := hO.fr1.fr1;exact ⟨_,fr_m 35 rfl,hC,hO,hI_,a0⟩
 cases o80 with
 | nx _ => trivial
 | rt r_ =>
  have hs := zr hs;intro a8 a7 hK;cases hs;exact hK
 | br s76 =>
  have hs := zq hs;rintro a8 a4 ⟨σ,rfl,hC,hO,c6,a0⟩;cases hs;exact ⟨_,zF 35 trivial,hC,c6⟩

def Xs (M : Nat → Prop) (w0 : World) {α_ : Type} (I_ : World → List α_ → Prop) (G_ : List Nat) (r : (List α_)) (a : Act) (w : World) : Prop :=
  ∃ σ,a = fr 23 (ovl σ []) ∧ Chg (G_ ++ []) w0 w ∧ I_ w r
def Zu {α_ : Type} (ls_ : α_ → α_ → Option Bool) (d_ : List α_) (a_ : Int) (b : Int) (n : Int) : Option ((List α_)) :=
  (forC (S := (List α_)) (R := (List α_)) (fun k9 s7 =>
  (swx s7 (w64 (a_ + k9)) (w64 (b + k9))).bind fun y16 =>
  some (.nx y16)) 0 n d_).bind fun o11 => after o11 (fun r_ => some r_) (fun s7 =>
  some s7)
theorem xc {α_ : Type} {n0_ : Nat} {I_ : World → List α_ → Prop} {G_ : List Nat} {g_ sf_ : Nat} {lb_ sb_ : Array Value} (ls_ : α_ → α_ → Option Bool) (d_ : List α_) (a_ : Int) (b : Int) (n : Int) (hN_ : n0_ ≤ w.heap.size) (hE_ : Env Tryz.prog n0_ I_ G_ ls_ g_ lb_ sf_ sb_) (hI_ : I_ w d_) (hI : Own (Nw w (G_ ++ [])) M w (G_ ++ [])) (hM : Hm w M) {r : (List α_)} (hs : Zu ls_ d_ a_ b n = some r) :
    Gives Tryz.prog 152 [(.agg #[(.func (.func g_) #[] lb_),(.func (.func sf_) #[] sb_)]),(iv a_),(iv b),(iv n)] w (fun v w' => v = (.tuple #[]) ∧ Chg (G_ ++ []) w w' ∧ I_ w' r) := by
 refine zx Tryz.func152 rfl Tryz.ntmps152 (nl rfl) ?_;have hO := hI;have hC := Chg.refl (G_ ++ []) w;unfold Zu at hs;refine wp_mono (Q := WM (Xs M w I_ G_ r)) ?_ (fun e a a3 h => ?_);rotate_left
 ·cases e
  case ret =>
   obtain ⟨σ,rfl,hrest⟩ := h;exact uA Tryz.results152  ⟨rfl,hrest⟩
  case normal =>
   obtain ⟨σ,rfl,hrest⟩ := h;exact ur Tryz.results152  ⟨rfl,hrest⟩
  all_goals exact (h : False).elim
 refine c_sr ?_;obtain ⟨a3,a2,a8,a7,a4,a1⟩ := zg w [(.func (.func g_) #[] lb_),(.func (.func sf_) #[] sb_)] 153;refine za (w' := a3) (pq a2 0) (Zx rfl (by rw [a8,a7]; kernel_rfl)) ?_;have hI_ := hE_.ext hI_ a4 (fun _ h => nomatch h);have hC := hC.ext a4;have hO := hO.new1 a4 a7 a1.lt;refine zb (c_sr (ai rfl (zb ?_)));obtain ⟨o11,a9,hs⟩ := bq hs;refine wp_block (zU (id := 0) n (I := fun k9 s7 a a0 => ∃ σ,a = fr 23 (ovl σ [(1,(iv a_)),(2,(iv b)),(3,(iv n)),(4,(pq a2 0)),(8,(iv k9))]) ∧ Chg (G_ ++ []) w a0 ∧ Own (Nw w (G_ ++ [])) M a0 ([a2] ++ (G_ ++ [])) ∧ I_ a0 s7 ∧ BoxV a0 a2 153 [(.func (.func g_) #[] lb_),(.func (.func sf_) #[] sb_)]) (J := fun s7 a a0 => ∃ σ,a = fr 23 (ovl σ []) ∧ Chg (G_ ++ []) w a0 ∧ Own (Nw w (G_ ++ [])) M a0 ([a2] ++ (G_ ++ [])) ∧ I_ a0 s7 ∧ BoxV a0 a2 153 [(.func (.func g_) #[] lb_),(.func (.func sf_) #[] sb_)]) (K := (Xs M w I_ G_)) ?_ ?_ 0 d_ o11 _ _ ?_ a9 ?_)
 ·rintro k9 s7 a a0 ⟨σ,rfl,hC,hO,a5,a1⟩ hlt;refine ze (c_sr (mi rfl (mi rfl (za _ (zA rfl rfl) (zb (zk (df hlt) (wp_exit ?_)))))));have hO := hO.fr1.fr1;exact ⟨rfl,_,zF 23 trivial,hC,hO,a5,a1⟩
 ·rintro k9 s7 o11 a a0 ⟨σ,rfl,hC,hO,a5,a1⟩ hlt hw hs;refine ze (c_sr (mi rfl (mi rfl (za _ (zA rfl rfl) (zb (zl (dt hlt) (wp_skip (ze (wp_block (zh (za (pq a2 1) (zj rfl Ua) (za _ (ld rfl Ag149 Sz149 a1 rfl) (mi rfl (mi rfl (za _ (yad rfl rfl) (mi rfl (mi rfl (za _ (yad rfl rfl) ?_))))))))))))))))));obtain ⟨y16,b0,hs⟩ := bq hs;obtain ⟨b1,b2,a6,b3⟩ := hE_.swap a5 b0;refine za (w' := b1) (.tuple #[]) (VK rfl rfl b2) ?_;have hO := hO.fr1;have a1 := a1.ap a6 hO zf mS;have hC := hC.st a6 hO zf;have hO := hO.ext a6;refine zb (zh (mi rfl (za _ (yad rfl rfl) (ai rfl (zb ?_)))));cases hs;have hO := hO.fr1;exact ⟨_,zF 23 ⟨rfl,rfl,rfl,rfl,congrArg (Value.int .i64) hw,trivial⟩,hC,hO,b3,a1⟩
 ·have hO := hO.fr1.fr1;exact ⟨_,fr_m 23 rfl,hC,hO,hI_,a1⟩
 cases o11 with
 | nx _ => trivial
 | rt r_ =>
  have hs := zr hs;intro b4 a3 hK;cases hs;exact hK
 | br s7 =>
  have hs := zq hs;rintro b4 a0 ⟨σ,rfl,hC,hO,b5,a1⟩;cases hs;exact ⟨_,zF 23 trivial,hC,b5⟩

theorem vI : AggT Tryz.prog 153 true := fun _ => by kernel_rfl

theorem vF : SzT Tryz.prog 153 2 := ⟨_,rfl,rfl⟩

theorem Bd152 : zK Tryz.prog 152 := zP Tryz.func152 (by kernel_rfl) rfl

def wh (M : Nat → Prop) (w0 : World) {α_ : Type} (I_ : World → List α_ → Prop) (G_ : List Nat) (r : (List α_)) (a : Act) (w : World) : Prop :=
  ∃ σ,a = fr 53 (ovl σ []) ∧ Chg (G_ ++ []) w0 w ∧ I_ w r
def yz {α_ : Type} (ls_ : α_ → α_ → Option Bool) (d_ : List α_) (a_ : Int) (m : Int) (b : Int) : Option ((List α_)) :=
  (iter (S := Int × Int × (List α_)) (R := (List α_)) (fun s15 =>
  (bif (s15.1 != s15.2.1) then (bif (decide (s15.2.1 < s15.1)) then (Zu ls_ s15.2.2 (w64 (m - s15.1)) m s15.2.1).bind fun r26 =>
  some (.nx (w64 (s15.1 - s15.2.1),s15.2.1,r26)) else (Zu ls_ s15.2.2 (w64 (m - s15.1)) (w64 ((w64 (m + s15.2.1)) - s15.1)) s15.1).bind fun r28 =>
  some (.nx (s15.1,w64 (s15.2.1 - s15.1),r28))) else some (.br (s15.1,s15.2.1,s15.2.2)))) FU (w64 (m - a_),w64 (b - m),d_)).bind fun o19 => after o19 (fun r_ => some r_) (fun s15 =>
  (Zu ls_ s15.2.2 (w64 (m - s15.1)) m s15.1).bind fun r30 =>
  some r30)
theorem vX {α_ : Type} {n0_ : Nat} {I_ : World → List α_ → Prop} {G_ : List Nat} {g_ sf_ : Nat} {lb_ sb_ : Array Value} (ls_ : α_ → α_ → Option Bool) (d_ : List α_) (a_ : Int) (m : Int) (b : Int) (hN_ : n0_ ≤ w.heap.size) (hE_ : Env Tryz.prog n0_ I_ G_ ls_ g_ lb_ sf_ sb_) (hI_ : I_ w d_) (hI : Own (Nw w (G_ ++ [])) M w (G_ ++ [])) (hM : Hm w M) {r : (List α_)} (hs : yz ls_ d_ a_ m b = some r) :
    Gives Tryz.prog 148 [(.agg #[(.func (.func g_) #[] lb_),(.func (.func sf_) #[] sb_)]),(iv a_),(iv m),(iv b)] w (fun v w' => v = (.tuple #[]) ∧ Chg (G_ ++ []) w w' ∧ I_ w' r) := by
 refine zx Tryz.func148 rfl Tryz.ntmps148 (nl rfl) ?_;have hO := hI;have hC := Chg.refl (G_ ++ []) w;unfold yz at hs;refine wp_mono (Q := WM (wh M w I_ G_ r)) ?_ (fun e a a3 h => ?_);rotate_left
 ·cases e
  case ret =>
   obtain ⟨σ,rfl,hrest⟩ := h;exact uA Tryz.results148  ⟨rfl,hrest⟩
  case normal =>
   obtain ⟨σ,rfl,hrest⟩ := h;exact ur Tryz.results148  ⟨rfl,hrest⟩
  all_goals exact (h : False).elim
 refine c_sr ?_;obtain ⟨a3,a2,b2,b1,a4,a0⟩ := zg w [(.func (.func g_) #[] lb_),(.func (.func sf_) #[] sb_)] 153;refine za (w' := a3) (pq a2 0) (Zx rfl (by rw [b2,b1]; kernel_rfl)) ?_;have hI_ := hE_.ext hI_ a4 (fun _ h => nomatch h);have hC := hC.ext a4;have hO := hO.new1 a4 b1 a0.lt;refine zb (c_sr (mi rfl (mi rfl (za _ (ysu rfl rfl) (ai rfl (zb (c_sr (mi rfl (mi rfl (za _ (ysu rfl rfl) (ai rfl (zb (ze ?_)))))))))))));obtain ⟨o19,b3,hs⟩ := bq hs;refine wp_block (ZG (id := 0) (I := fun s15 a a1 => ∃ σ,a = fr 53 (ovl σ [(2,(iv m)),(4,(pq a2 0)),(8,(iv s15.1)),(9,(iv s15.2.1))]) ∧ Chg (G_ ++ []) w a1 ∧ Own (Nw w (G_ ++ [])) M a1 ([a2] ++ (G_ ++ [])) ∧ I_ a1 s15.2.2 ∧ BoxV a1 a2 153 [(.func (.func g_) #[] lb_),(.func (.func sf_) #[] sb_)]) (J := fun s15 a a1 => ∃ σ,a = fr 53 (ovl σ [(2,(iv m)),(4,(pq a2 0)),(8,(iv s15.1))]) ∧ Chg (G_ ++ []) w a1 ∧ Own (Nw w (G_ ++ [])) M a1 ([a2] ++ (G_ ++ [])) ∧ I_ a1 s15.2.2 ∧ BoxV a1 a2 153 [(.func (.func g_) #[] lb_),(.func (.func sf_) #[] sb_)]) (K := (wh M w I_ G_)) ?_ FU (w64 (m - a_),w64 (b - m),d_) o19 _ _ ?_ b3 ?_)
 ·rintro s15 o19 a a1 ⟨σ,rfl,hC,hO,a5,a0⟩ hs;refine ze (c_sr (mi rfl (mi rfl (za (.bool (s15.1 != s15.2.1)) (Xp rfl rfl) (zb ?_)))));rcases zm hs with ⟨a6,hs⟩ | ⟨a6,hs⟩
  ·refine zl (cb a6) (wp_skip (wp_block (c_sr (mi rfl (mi rfl (za _ (xg rfl rfl) (zb ?_)))))));rcases zm hs with ⟨a7,hs⟩ | ⟨a7,hs⟩
   ·refine zl (cb a7) (c_sr (za _ (ldw rfl vI a0 vF) (mi rfl (mi rfl (za _ (ysu rfl rfl) (mi rfl (mi rfl ?_)))))));have hO := hO.fr1;have b4 := Own.lend (F := (G_ ++ [])) (R := [a2] ++ []) (Own.perm hO (by simp));obtain ⟨r26,b5,hs⟩ := bq hs;refine zC Bd152 rfl (xc (M := M) ls_ s15.2.2 (w64 (m - s15.1)) m s15.2.1 (Nat.le_trans hN_ hC.size) hE_ a5 b4 hO.fut b5) ?_;rintro _ c5 ⟨rfl,a8,b6⟩;have a0 := a0.ap a8 hO ZU mS;have hC := hC.st a8 hO ZU;have hO := hO.ext a8;refine zb (zh (mi rfl (mi rfl (za _ (ysu rfl rfl) (ai rfl (zb ?_))))));cases hs;have hO := hO.fr1;exact ⟨_,fr_m 53 rfl,hC,hO,b6,a0⟩
   refine zk (cb a7) (c_sr (za _ (ldw rfl vI a0 vF) (mi rfl (mi rfl (za _ (ysu rfl rfl) (mi rfl (mi rfl (za _ (yad rfl rfl) (mi rfl (za _ (ysu rfl rfl) (mi rfl ?_)))))))))));have hO := hO.fr1;have b7 := Own.lend (F := (G_ ++ [])) (R := [a2] ++ []) (Own.perm hO (by simp));obtain ⟨r28,b8,hs⟩ := bq hs;refine zC Bd152 rfl (xc (M := M) ls_ s15.2.2 (w64 (m - s15.1)) (w64 ((w64 (m + s15.2.1)) - s15.1)) s15.1 (Nat.le_trans hN_ hC.size) hE_ a5 b7 hO.fut b8) ?_;rintro _ c6 ⟨rfl,a9,b9⟩;have a0 := a0.ap a9 hO ZU mS;have hC := hC.st a9 hO ZU;have hO := hO.ext a9;refine zb (zh (mi rfl (mi rfl (za _ (ysu rfl rfl) (ai rfl (zb ?_))))));cases hs;have hO := hO.fr1;exact ⟨_,fr_m 53 rfl,hC,hO,b9,a0⟩
  refine zk (cb a6) (wp_exit ?_);cases hs;have hO := hO.fr1.fr1;exact ⟨rfl,_,fr_m 53 rfl,hC,hO,a5,a0⟩
 ·have hO := hO.fr1.fr1;exact ⟨_,fr_m 53 rfl,hC,hO,hI_,a0⟩
 cases o19 with
 | nx _ => trivial
 | rt r_ =>
  have hs := zr hs;intro c0 a3 hK;cases hs;exact hK
 | br s15 =>
  have hs := zq hs;rintro c0 a1 ⟨σ,rfl,hC,hO,c1,a0⟩;refine zh (za _ (ldw rfl vI a0 vF) (mi rfl (mi rfl (za _ (ysu rfl rfl) (mi rfl (mi rfl ?_))))));have hO := hO.fr1;have c2 := Own.lend (F := (G_ ++ [])) (R := [a2] ++ []) (Own.perm hO (by simp));obtain ⟨r30,c3,hs⟩ := bq hs;refine zC Bd152 rfl (xc (M := M) ls_ s15.2.2 (w64 (m - s15.1)) m s15.1 (Nat.le_trans hN_ hC.size) hE_ c1 c2 hO.fut c3) ?_;rintro _ c7 ⟨rfl,b0,c4⟩;have a0 := a0.ap b0 hO ZU mS;have hC := hC.st b0 hO ZU;have hO := hO.ext b0;refine zb ?_;cases hs;exact ⟨_,zF 53 trivial,hC,c4⟩

theorem Bd148 : zK Tryz.prog 148 := zP Tryz.func148 (by kernel_rfl) rfl

theorem Bd140 : zK Tryz.prog 140 := zP Tryz.func140 (by kernel_rfl) rfl

def yi (M : Nat → Prop) (w0 : World) {α_ : Type} (I_ : World → List α_ → Prop) (G_ : List Nat) (r : (List α_)) (a : Act) (w : World) : Prop :=
  ∃ σ,a = fr 177 (ovl σ []) ∧ Chg (G_ ++ []) w0 w ∧ I_ w r
def zW {α_ : Type} : Nat → (α_ → α_ → Option Bool) → (List α_) → (Int) → (Int) → (Int) → Option ((List α_))
  | 0,_,_,_,_,_ => none
  | fu_ + 1,ls_,d_,a_,m,b =>
  (bif ((w64 (m - a_)) == 1) then (iter (S := Int × Int) (R := (List α_)) (fun s7 =>
  (bif (decide (s7.1 < s7.2)) then (lsx ls_ d_ (w64 (ishr .u64 (IntKind.u64.wrap (w64 (s7.1 + s7.2))) 1)) a_).bind fun r15 =>
  (bif r15 then some (.nx (w64 ((w64 (ishr .u64 (IntKind.u64.wrap (w64 (s7.1 + s7.2))) 1)) + 1),s7.2)) else some (.nx (s7.1,w64 (ishr .u64 (IntKind.u64.wrap (w64 (s7.1 + s7.2))) 1)))) else some (.br (s7.1,s7.2)))) FU (m,b)).bind fun o11 => after o11 (fun r_ => some r_) (fun s7 =>
  (forC (S := (List α_)) (R := (List α_)) (fun k24 s22 =>
  (swx s22 k24 (w64 (k24 + 1))).bind fun y31 =>
  some (.nx y31)) a_ (w64 (s7.1 - 1)) d_).bind fun o26 => after o26 (fun r_ => some r_) (fun s22 =>
  some s22)) else (bif ((w64 (b - m)) == 1) then (iter (S := Int × Int) (R := (List α_)) (fun s37 =>
  (bif (decide (s37.1 < s37.2)) then (lsx ls_ d_ m (w64 (ishr .u64 (IntKind.u64.wrap (w64 (s37.1 + s37.2))) 1))).bind fun r45 =>
  (bif (!r45) then some (.nx (w64 ((w64 (ishr .u64 (IntKind.u64.wrap (w64 (s37.1 + s37.2))) 1)) + 1),s37.2)) else some (.nx (s37.1,w64 (ishr .u64 (IntKind.u64.wrap (w64 (s37.1 + s37.2))) 1)))) else some (.br (s37.1,s37.2)))) FU (a_,m)).bind fun o41 => after o41 (fun r_ => some r_) (fun s37 =>
  (iter (S := Int × (List α_)) (R := (List α_)) (fun s54 =>
  (bif (decide (s37.1 < s54.1)) then (swx s54.2 s54.1 (w64 (s54.1 - 1))).bind fun y64 =>
  some (.nx (w64 (s54.1 - 1),y64)) else some (.br (s54.1,s54.2)))) FU (m,d_)).bind fun o58 => after o58 (fun r_ => some r_) (fun s54 =>
  some s54.2)) else (bif (decide ((w64 (ishr .u64 (IntKind.u64.wrap (w64 (a_ + b))) 1)) < m)) then some (w64 ((w64 ((w64 (ishr .u64 (IntKind.u64.wrap (w64 (a_ + b))) 1)) + m)) - b),w64 (ishr .u64 (IntKind.u64.wrap (w64 (a_ + b))) 1)) else some (a_,m)).bind fun s65 =>
  (iter (S := Int × Int) (R := (List α_)) (fun s73 =>
  (bif (decide (s73.1 < s73.2)) then (lsx ls_ d_ (w64 ((w64 ((w64 ((w64 (ishr .u64 (IntKind.u64.wrap (w64 (a_ + b))) 1)) + m)) - 1)) - (w64 (ishr .u64 (IntKind.u64.wrap (w64 (s73.1 + s73.2))) 1)))) (w64 (ishr .u64 (IntKind.u64.wrap (w64 (s73.1 + s73.2))) 1))).bind fun r81 =>
  (bif (!r81) then some (.nx (w64 ((w64 (ishr .u64 (IntKind.u64.wrap (w64 (s73.1 + s73.2))) 1)) + 1),s73.2)) else some (.nx (s73.1,w64 (ishr .u64 (IntKind.u64.wrap (w64 (s73.1 + s73.2))) 1)))) else some (.br (s73.1,s73.2)))) FU (s65.1,s65.2)).bind fun o77 => after o77 (fun r_ => some r_) (fun s73 =>
  (bif ((decide (s73.1 < m)) && (decide (m < (w64 ((w64 ((w64 (ishr .u64 (IntKind.u64.wrap (w64 (a_ + b))) 1)) + m)) - s73.1))))) then (yz ls_ d_ s73.1 m (w64 ((w64 ((w64 (ishr .u64 (IntKind.u64.wrap (w64 (a_ + b))) 1)) + m)) - s73.1))).bind fun r97 =>
  some r97 else some d_).bind fun s91 =>
  (bif ((decide (a_ < s73.1)) && (decide (s73.1 < (w64 (ishr .u64 (IntKind.u64.wrap (w64 (a_ + b))) 1))))) then (zW fu_ ls_ s91 a_ s73.1 (w64 (ishr .u64 (IntKind.u64.wrap (w64 (a_ + b))) 1))).bind fun r112 =>
  some r112 else some s91).bind fun s106 =>
  (bif ((decide ((w64 (ishr .u64 (IntKind.u64.wrap (w64 (a_ + b))) 1)) < (w64 ((w64 ((w64 (ishr .u64 (IntKind.u64.wrap (w64 (a_ + b))) 1)) + m)) - s73.1)))) && (decide ((w64 ((w64 ((w64 (ishr .u64 (IntKind.u64.wrap (w64 (a_ + b))) 1)) + m)) - s73.1)) < b))) then (zW fu_ ls_ s106 (w64 (ishr .u64 (IntKind.u64.wrap (w64 (a_ + b))) 1)) (w64 ((w64 ((w64 (ishr .u64 (IntKind.u64.wrap (w64 (a_ + b))) 1)) + m)) - s73.1)) b).bind fun r119 =>
  some r119 else some s106))))
theorem XF : ∀ (fu_ : Nat) {M : Nat → Prop} {w : World} {α_ : Type} {n0_ : Nat} {I_ : World → List α_ → Prop} {G_ : List Nat} {g_ sf_ : Nat} {lb_ sb_ : Array Value} (ls_ : α_ → α_ → Option Bool) (d_ : List α_) (a_ : Int) (m : Int) (b : Int) (hN_ : n0_ ≤ w.heap.size) (hE_ : Env Tryz.prog n0_ I_ G_ ls_ g_ lb_ sf_ sb_) (hI_ : I_ w d_) (hI : Own (Nw w (G_ ++ [])) M w (G_ ++ [])) (hM : Hm w M) {r : (List α_)} (hs : zW fu_ ls_ d_ a_ m b = some r),Gives Tryz.prog 140 [(.agg #[(.func (.func g_) #[] lb_),(.func (.func sf_) #[] sb_)]),(iv a_),(iv m),(iv b)] w (fun v w' => v = (.tuple #[]) ∧ Chg (G_ ++ []) w w' ∧ I_ w' r) := by
 intro fu_;induction fu_ with
 | zero => intro M w α_ n0_ I_ G_ g_ sf_ lb_ sb_ ls_ d_ a_ m b hN_ hE_ hI_ hI hM r hs; exact (nomatch hs)
 | succ fu_ c_ih =>
 intro M w α_ n0_ I_ G_ g_ sf_ lb_ sb_ ls_ d_ a_ m b hN_ hE_ hI_ hI hM r hs;refine zx Tryz.func140 rfl Tryz.ntmps140 (nl rfl) ?_;have hO := hI;have hC := Chg.refl (G_ ++ []) w;rw [zW] at hs;refine wp_mono (Q := WM (yi M w I_ G_ r)) ?_ (fun e a b1 h => ?_);rotate_left
 ·cases e
  case ret =>
   obtain ⟨σ,rfl,hrest⟩ := h;exact uA Tryz.results140  ⟨rfl,hrest⟩
  case normal =>
   obtain ⟨σ,rfl,hrest⟩ := h;exact ur Tryz.results140  ⟨rfl,hrest⟩
  all_goals exact (h : False).elim
 refine c_sr ?_;obtain ⟨b1,a1,e8,e3,c3,a0⟩ := zg w [(.func (.func g_) #[] lb_),(.func (.func sf_) #[] sb_)] 153;refine za (w' := b1) (pq a1 0) (Zx rfl (by rw [e8,e3]; kernel_rfl)) ?_;have hI_ := hE_.ext hI_ c3 (fun _ h => nomatch h);have hC := hC.ext c3;have hO := hO.new1 c3 e3 a0.lt;refine zb (ze (c_sr (mi rfl (mi rfl (za _ (ysu rfl rfl) (za (.bool ((w64 (m - a_)) == 1)) (xn rfl rfl) (zb ?_)))))));rcases zm hs with ⟨c4,hs⟩ | ⟨c4,hs⟩
 ·refine zl (cb c4) (c_sr (mi rfl (ai rfl (zb (c_sr (mi rfl (ai rfl (zb (ze ?_)))))))));obtain ⟨o11,e9,hs⟩ := bq hs;refine wp_block (ZG (id := 0) (I := fun s7 a a5 => ∃ σ,a = fr 177 (ovl σ [(1,(iv a_)),(2,(iv m)),(3,(iv b)),(4,(pq a1 0)),(8,(iv s7.1)),(9,(iv s7.2))]) ∧ Chg (G_ ++ []) w a5 ∧ Own (Nw w (G_ ++ [])) M a5 ([a1] ++ (G_ ++ [])) ∧ I_ a5 d_ ∧ BoxV a5 a1 153 [(.func (.func g_) #[] lb_),(.func (.func sf_) #[] sb_)]) (J := fun s7 a a5 => ∃ σ,a = fr 177 (ovl σ [(1,(iv a_)),(2,(iv m)),(3,(iv b)),(4,(pq a1 0)),(8,(iv s7.1))]) ∧ Chg (G_ ++ []) w a5 ∧ Own (Nw w (G_ ++ [])) M a5 ([a1] ++ (G_ ++ [])) ∧ I_ a5 d_ ∧ BoxV a5 a1 153 [(.func (.func g_) #[] lb_),(.func (.func sf_) #[] sb_)]) (K := (yi M w I_ G_)) ?_ FU (m,b) o11 _ _ ?_ e9 ?_)
  ·rintro s7 o11 a a5 ⟨σ,rfl,hC,hO,hI_,a0⟩ hs;refine ze (c_sr (mi rfl (mi rfl (za _ (zA rfl rfl) (zb ?_)))));rcases zm hs with ⟨c5,hs⟩ | ⟨c5,hs⟩
   ·refine zl (cb c5) (wp_skip (wp_block (c_sr (mi rfl (mi rfl (za _ (yad rfl rfl) (za (.int .u64 (IntKind.u64.wrap (w64 (s7.1 + s7.2)))) (Yh Tryz.underlying3 Tryz.underlying135 rfl) (za (.int .u64 (ishr .u64 (IntKind.u64.wrap (w64 (s7.1 + s7.2))) 1)) (zci rfl rfl (by decide)) (za (iv (w64 (ishr .u64 (IntKind.u64.wrap (w64 (s7.1 + s7.2))) 1))) (Yh Tryz.underlying135 Tryz.underlying3 rfl) (ai rfl (zb (c_sr (za (pq a1 0) (zj rfl uX) (za _ (ld rfl Ag137 Sz137 a0 rfl) (mi rfl (mi rfl ?_))))))))))))))));obtain ⟨r15,f0,hs⟩ := bq hs;refine Wa rfl hE_.bod rfl (hE_.less hI_ f0) ?_;rintro _ h9 ⟨rfl,b5⟩;have hI_ := hE_.ext hI_ b5 (fun _ h => nomatch h);obtain ⟨a0,hC,hO⟩ := xt3 b5 a0 hC hO;refine zb ?_;rcases zm hs with ⟨c6,hs⟩ | ⟨c6,hs⟩
    ·refine zl (cb c6) (zh (mi rfl (za _ (yad rfl rfl) (ai rfl (zb ?_)))));cases hs;have hO := hO.fr1.fr1;exact ⟨_,fr_m 177 rfl,hC,hO,hI_,a0⟩
    refine zk (cb c6) (zh (mi rfl (ai rfl (zb ?_))));cases hs;have hO := hO.fr1.fr1;exact ⟨_,fr_m 177 rfl,hC,hO,hI_,a0⟩
   refine zk (cb c5) (wp_exit ?_);cases hs;have hO := hO.fr1.fr1;exact ⟨rfl,_,fr_m 177 rfl,hC,hO,hI_,a0⟩
  ·have hO := hO.fr1.fr1;exact ⟨_,fr_m 177 rfl,hC,hO,hI_,a0⟩
  cases o11 with
  | nx _ => trivial
  | rt r_ =>
   have hs := zr hs;intro a2 b1 hK;cases hs;exact hK
  | br s7 =>
   have hs := zq hs;rintro a2 a5 ⟨σ,rfl,hC,hO,hI_,a0⟩;refine ze (c_sr (mi rfl (ai rfl (zb ?_))));obtain ⟨o26,f1,hs⟩ := bq hs;refine wp_block (zU (id := 2) (w64 (s7.1 - 1)) (I := fun k24 s22 a a4 => ∃ σ,a = fr 177 (ovl σ [(1,(iv a_)),(2,(iv m)),(3,(iv b)),(4,(pq a1 0)),(8,(iv s7.1)),(11,(iv k24))]) ∧ Chg (G_ ++ []) w a4 ∧ Own (Nw w (G_ ++ [])) M a4 ([a1] ++ (G_ ++ [])) ∧ I_ a4 s22 ∧ BoxV a4 a1 153 [(.func (.func g_) #[] lb_),(.func (.func sf_) #[] sb_)]) (J := fun s22 a a4 => ∃ σ,a = fr 177 (ovl σ [(1,(iv a_)),(2,(iv m)),(3,(iv b)),(4,(pq a1 0))]) ∧ Chg (G_ ++ []) w a4 ∧ Own (Nw w (G_ ++ [])) M a4 ([a1] ++ (G_ ++ [])) ∧ I_ a4 s22 ∧ BoxV a4 a1 153 [(.func (.func g_) #[] lb_),(.func (.func sf_) #[] sb_)]) (K := (yi M w I_ G_)) ?_ ?_ a_ d_ o26 _ _ ?_ f1 ?_)
   ·rintro k24 s22 a a4 ⟨σ,rfl,hC,hO,c7,a0⟩ hlt;refine ze (c_sr (mi rfl (mi rfl (za _ (ysu rfl rfl) (za _ (zA rfl rfl) (zb (zk (df hlt) (wp_exit ?_))))))));have hO := hO.fr1.fr1;exact ⟨rfl,_,fr_m 177 rfl,hC,hO,c7,a0⟩
   ·rintro k24 s22 o26 a a4 ⟨σ,rfl,hC,hO,c7,a0⟩ hlt hw hs;refine ze (c_sr (mi rfl (mi rfl (za _ (ysu rfl rfl) (za _ (zA rfl rfl) (zb (zl (dt hlt) (wp_skip (ze (wp_block (zh (za (pq a1 1) (zj rfl Ua) (za _ (ld rfl Ag149 Sz149 a0 rfl) (mi rfl (mi rfl (za _ (yad rfl rfl) ?_))))))))))))))));obtain ⟨y31,f2,hs⟩ := bq hs;obtain ⟨f3,f4,c8,f5⟩ := hE_.swap c7 f2;refine za (w' := f3) (.tuple #[]) (VK rfl rfl f4) ?_;have hO := hO.fr1;have a0 := a0.ap c8 hO zf mS;have hC := hC.st c8 hO zf;have hO := hO.ext c8;refine zb (zh (mi rfl (za _ (yad rfl rfl) (ai rfl (zb ?_)))));cases hs;have hO := hO.fr1;exact ⟨_,zF 177 ⟨rfl,rfl,rfl,rfl,rfl,congrArg (Value.int .i64) hw,trivial⟩,hC,hO,f5,a0⟩
   ·have hO := hO.fr1.fr1;exact ⟨_,fr_m 177 rfl,hC,hO,hI_,a0⟩
   cases o26 with
   | nx _ => trivial
   | rt r_ =>
    have hs := zr hs;intro a2 b1 hK;cases hs;exact hK
   | br s22 =>
    have hs := zq hs;rintro a2 a4 ⟨σ,rfl,hC,hO,f6,a0⟩;refine wp_ret ?_;cases hs;exact ⟨_,zF 177 trivial,hC,f6⟩
 refine zk (cb c4) (wp_skip (ze (c_sr (mi rfl (mi rfl (za _ (ysu rfl rfl) (za (.bool ((w64 (b - m)) == 1)) (xn rfl rfl) (zb ?_))))))));rcases zm hs with ⟨c9,hs⟩ | ⟨c9,hs⟩
 ·refine zl (cb c9) (c_sr (mi rfl (ai rfl (zb (c_sr (mi rfl (ai rfl (zb (ze ?_)))))))));obtain ⟨o41,f7,hs⟩ := bq hs;refine wp_block (ZG (id := 4) (I := fun s37 a a6 => ∃ σ,a = fr 177 (ovl σ [(1,(iv a_)),(2,(iv m)),(3,(iv b)),(4,(pq a1 0)),(12,(iv s37.1)),(13,(iv s37.2))]) ∧ Chg (G_ ++ []) w a6 ∧ Own (Nw w (G_ ++ [])) M a6 ([a1] ++ (G_ ++ [])) ∧ I_ a6 d_ ∧ BoxV a6 a1 153 [(.func (.func g_) #[] lb_),(.func (.func sf_) #[] sb_)]) (J := fun s37 a a6 => ∃ σ,a = fr 177 (ovl σ [(1,(iv a_)),(2,(iv m)),(3,(iv b)),(4,(pq a1 0)),(12,(iv s37.1))]) ∧ Chg (G_ ++ []) w a6 ∧ Own (Nw w (G_ ++ [])) M a6 ([a1] ++ (G_ ++ [])) ∧ I_ a6 d_ ∧ BoxV a6 a1 153 [(.func (.func g_) #[] lb_),(.func (.func sf_) #[] sb_)]) (K := (yi M w I_ G_)) ?_ FU (a_,m) o41 _ _ ?_ f7 ?_)
  ·rintro s37 o41 a a6 ⟨σ,rfl,hC,hO,hI_,a0⟩ hs;refine ze (c_sr (mi rfl (mi rfl (za _ (zA rfl rfl) (zb ?_)))));rcases zm hs with ⟨d0,hs⟩ | ⟨d0,hs⟩
   ·refine zl (cb d0) (wp_skip (wp_block (c_sr (mi rfl (mi rfl (za _ (yad rfl rfl) (za (.int .u64 (IntKind.u64.wrap (w64 (s37.1 + s37.2)))) (Yh Tryz.underlying3 Tryz.underlying135 rfl) (za (.int .u64 (ishr .u64 (IntKind.u64.wrap (w64 (s37.1 + s37.2))) 1)) (zci rfl rfl (by decide)) (za (iv (w64 (ishr .u64 (IntKind.u64.wrap (w64 (s37.1 + s37.2))) 1))) (Yh Tryz.underlying135 Tryz.underlying3 rfl) (ai rfl (zb (c_sr (za (pq a1 0) (zj rfl uX) (za _ (ld rfl Ag137 Sz137 a0 rfl) (mi rfl (mi rfl ?_))))))))))))))));obtain ⟨r45,f8,hs⟩ := bq hs;refine Wa rfl hE_.bod rfl (hE_.less hI_ f8) ?_;rintro _ i0 ⟨rfl,b6⟩;have hI_ := hE_.ext hI_ b6 (fun _ h => nomatch h);obtain ⟨a0,hC,hO⟩ := xt3 b6 a0 hC hO;refine za _ (yc rfl) (zb ?_);rcases zm hs with ⟨d1,hs⟩ | ⟨d1,hs⟩
    ·refine zl (cb d1) (zh (mi rfl (za _ (yad rfl rfl) (ai rfl (zb ?_)))));cases hs;have hO := hO.fr1.fr1;exact ⟨_,fr_m 177 rfl,hC,hO,hI_,a0⟩
    refine zk (cb d1) (zh (mi rfl (ai rfl (zb ?_))));cases hs;have hO := hO.fr1.fr1;exact ⟨_,fr_m 177 rfl,hC,hO,hI_,a0⟩
   refine zk (cb d0) (wp_exit ?_);cases hs;have hO := hO.fr1.fr1;exact ⟨rfl,_,fr_m 177 rfl,hC,hO,hI_,a0⟩
  ·have hO := hO.fr1.fr1;exact ⟨_,fr_m 177 rfl,hC,hO,hI_,a0⟩
  cases o41 with
  | nx _ => trivial
  | rt r_ =>
   have hs := zr hs;intro a2 b1 hK;cases hs;exact hK
  | br s37 =>
   have hs := zq hs;rintro a2 a6 ⟨σ,rfl,hC,hO,hI_,a0⟩;refine ze (c_sr (mi rfl (ai rfl (zb ?_))));obtain ⟨o58,f9,hs⟩ := bq hs;refine wp_block (ZG (id := 6) (I := fun s54 a a7 => ∃ σ,a = fr 177 (ovl σ [(1,(iv a_)),(2,(iv m)),(3,(iv b)),(4,(pq a1 0)),(12,(iv s37.1)),(15,(iv s54.1))]) ∧ Chg (G_ ++ []) w a7 ∧ Own (Nw w (G_ ++ [])) M a7 ([a1] ++ (G_ ++ [])) ∧ I_ a7 s54.2 ∧ BoxV a7 a1 153 [(.func (.func g_) #[] lb_),(.func (.func sf_) #[] sb_)]) (J := fun s54 a a7 => ∃ σ,a = fr 177 (ovl σ [(1,(iv a_)),(2,(iv m)),(3,(iv b)),(4,(pq a1 0))]) ∧ Chg (G_ ++ []) w a7 ∧ Own (Nw w (G_ ++ [])) M a7 ([a1] ++ (G_ ++ [])) ∧ I_ a7 s54.2 ∧ BoxV a7 a1 153 [(.func (.func g_) #[] lb_),(.func (.func sf_) #[] sb_)]) (K := (yi M w I_ G_)) ?_ FU (m,d_) o58 _ _ ?_ f9 ?_)
   ·rintro s54 o58 a a7 ⟨σ,rfl,hC,hO,e4,a0⟩ hs;refine ze (c_sr (mi rfl (mi rfl (za _ (xg rfl rfl) (zb ?_)))));rcases zm hs with ⟨d2,hs⟩ | ⟨d2,hs⟩
    ·refine zl (cb d2) (wp_skip (ze (wp_block (zh (za (pq a1 1) (zj rfl Ua) (za _ (ld rfl Ag149 Sz149 a0 rfl) (mi rfl (mi rfl (za _ (ysu rfl rfl) ?_)))))))));obtain ⟨y64,g0,hs⟩ := bq hs;obtain ⟨g1,g2,d3,g3⟩ := hE_.swap e4 g0;refine za (w' := g1) (.tuple #[]) (VK rfl rfl g2) ?_;have hO := hO.fr1;have a0 := a0.ap d3 hO zf mS;have hC := hC.st d3 hO zf;have hO := hO.ext d3;refine zb (zh (mi rfl (za _ (ysu rfl rfl) (ai rfl (zb ?_)))));cases hs;have hO := hO.fr1;exact ⟨_,fr_m 177 rfl,hC,hO,g3,a0⟩
    refine zk (cb d2) (wp_exit ?_);cases hs;have hO := hO.fr1.fr1;exact ⟨rfl,_,fr_m 177 rfl,hC,hO,e4,a0⟩
   ·have hO := hO.fr1.fr1;exact ⟨_,fr_m 177 rfl,hC,hO,hI_,a0⟩
   cases o58 with
   | nx _ => trivial
   | rt r_ =>
    have hs := zr hs;intro a2 b1 hK;cases hs;exact hK
   | br s54 =>
    have hs := zq hs;rintro a2 a7 ⟨σ,rfl,hC,hO,g4,a0⟩;refine wp_ret ?_;cases hs;exact ⟨_,zF 177 trivial,hC,g4⟩
 refine zk (cb c9) (wp_skip (c_sr (mi rfl (mi rfl (za _ (yad rfl rfl) (za (.int .u64 (IntKind.u64.wrap (w64 (a_ + b)))) (Yh Tryz.underlying3 Tryz.underlying135 rfl) (za (.int .u64 (ishr .u64 (IntKind.u64.wrap (w64 (a_ + b))) 1)) (zci rfl rfl (by decide)) (za (iv (w64 (ishr .u64 (IntKind.u64.wrap (w64 (a_ + b))) 1))) (Yh Tryz.underlying135 Tryz.underlying3 rfl) (ai rfl (zb (c_sr (mi rfl (mi rfl (za _ (yad rfl rfl) (ai rfl (zb (c_sr (ai rfl (ai rfl (zb (ze (c_sr (mi rfl ?_)))))))))))))))))))))));refine mi rfl (za _ (xg rfl rfl) (zb ?_));obtain ⟨s65,g5,hs⟩ := bq hs;refine yI (I := fun a b4 => ∃ σ,a = fr 177 (ovl σ [(1,(iv a_)),(2,(iv m)),(3,(iv b)),(4,(pq a1 0)),(16,(iv (w64 (ishr .u64 (IntKind.u64.wrap (w64 (a_ + b))) 1)))),(17,(iv (w64 ((w64 (ishr .u64 (IntKind.u64.wrap (w64 (a_ + b))) 1)) + m)))),(18,(iv s65.1)),(19,(iv s65.2))]) ∧ Chg (G_ ++ []) w b4 ∧ Own (Nw w (G_ ++ [])) M b4 ([a1] ++ (G_ ++ [])) ∧ I_ b4 d_ ∧ BoxV b4 a1 153 [(.func (.func g_) #[] lb_),(.func (.func sf_) #[] sb_)]) ?_ ?_
 ·replace hs := g5;rcases zm hs with ⟨d4,hs⟩ | ⟨d4,hs⟩
  ·refine zl (cb d4) (c_sr (mi rfl (mi rfl (za _ (ysu rfl rfl) (ai rfl (zb (zh (mi rfl (ai rfl (zb ?_))))))))));cases hs;have hO := hO.fr1.fr1;exact ⟨_,fr_m 177 rfl,hC,hO,hI_,a0⟩
  refine zk (cb d4) (c_sr (mi rfl (ai rfl (zb (zh (mi rfl (ai rfl (zb ?_))))))));cases hs;have hO := hO.fr1.fr1;exact ⟨_,fr_m 177 rfl,hC,hO,hI_,a0⟩
 rintro a2 b4 ⟨σ,rfl,hC,hO,hI_,a0⟩;refine c_sr (mi rfl (za _ (ysu rfl rfl) (ai rfl (zb (ze ?_)))));obtain ⟨o77,g6,hs⟩ := bq hs;refine wp_block (ZG (id := 8) (I := fun s73 a a3 => ∃ σ,a = fr 177 (ovl σ [(1,(iv a_)),(2,(iv m)),(3,(iv b)),(4,(pq a1 0)),(16,(iv (w64 (ishr .u64 (IntKind.u64.wrap (w64 (a_ + b))) 1)))),(17,(iv (w64 ((w64 (ishr .u64 (IntKind.u64.wrap (w64 (a_ + b))) 1)) + m)))),(18,(iv s73.1)),(19,(iv s73.2)),(20,(iv (w64 ((w64 ((w64 (ishr .u64 (IntKind.u64.wrap (w64 (a_ + b))) 1)) + m)) - 1))))]) ∧ Chg (G_ ++ []) w a3 ∧ Own (Nw w (G_ ++ [])) M a3 ([a1] ++ (G_ ++ [])) ∧ I_ a3 d_ ∧ BoxV a3 a1 153 [(.func (.func g_) #[] lb_),(.func (.func sf_) #[] sb_)]) (J := fun s73 a a3 => ∃ σ,a = fr 177 (ovl σ [(1,(iv a_)),(2,(iv m)),(3,(iv b)),(4,(pq a1 0)),(16,(iv (w64 (ishr .u64 (IntKind.u64.wrap (w64 (a_ + b))) 1)))),(17,(iv (w64 ((w64 (ishr .u64 (IntKind.u64.wrap (w64 (a_ + b))) 1)) + m)))),(18,(iv s73.1))]) ∧ Chg (G_ ++ []) w a3 ∧ Own (Nw w (G_ ++ [])) M a3 ([a1] ++ (G_ ++ [])) ∧ I_ a3 d_ ∧ BoxV a3 a1 153 [(.func (.func g_) #[] lb_),(.func (.func sf_) #[] sb_)]) (K := (yi M w I_ G_)) ?_ FU (s65.1,s65.2) o77 _ _ ?_ g6 ?_)
 ·rintro s73 o77 a a3 ⟨σ,rfl,hC,hO,hI_,a0⟩ hs;refine ze (c_sr (mi rfl (mi rfl (za _ (zA rfl rfl) (zb ?_)))));rcases zm hs with ⟨d5,hs⟩ | ⟨d5,hs⟩
  ·refine zl (cb d5) (wp_skip (wp_block (c_sr (mi rfl (mi rfl (za _ (yad rfl rfl) (za (.int .u64 (IntKind.u64.wrap (w64 (s73.1 + s73.2)))) (Yh Tryz.underlying3 Tryz.underlying135 rfl) (za (.int .u64 (ishr .u64 (IntKind.u64.wrap (w64 (s73.1 + s73.2))) 1)) (zci rfl rfl (by decide)) (za (iv (w64 (ishr .u64 (IntKind.u64.wrap (w64 (s73.1 + s73.2))) 1))) (Yh Tryz.underlying135 Tryz.underlying3 rfl) (ai rfl (zb (c_sr (za (pq a1 0) (zj rfl uX) (za _ (ld rfl Ag137 Sz137 a0 rfl) (mi rfl (mi rfl (za _ (ysu rfl rfl) (mi rfl ?_))))))))))))))))));obtain ⟨r81,g7,hs⟩ := bq hs;refine Wa rfl hE_.bod rfl (hE_.less hI_ g7) ?_;rintro _ i1 ⟨rfl,b7⟩;have hI_ := hE_.ext hI_ b7 (fun _ h => nomatch h);obtain ⟨a0,hC,hO⟩ := xt3 b7 a0 hC hO;refine za _ (yc rfl) (zb ?_);rcases zm hs with ⟨d6,hs⟩ | ⟨d6,hs⟩
   ·refine zl (cb d6) (zh (mi rfl (za _ (yad rfl rfl) (ai rfl (zb ?_)))));cases hs;have hO := hO.fr1.fr1;exact ⟨_,fr_m 177 rfl,hC,hO,hI_,a0⟩
   refine zk (cb d6) (zh (mi rfl (ai rfl (zb ?_))));cases hs;have hO := hO.fr1.fr1;exact ⟨_,fr_m 177 rfl,hC,hO,hI_,a0⟩
  refine zk (cb d5) (wp_exit ?_);cases hs;have hO := hO.fr1.fr1;exact ⟨rfl,_,fr_m 177 rfl,hC,hO,hI_,a0⟩
 ·have hO := hO.fr1.fr1;exact ⟨_,fr_m 177 rfl,hC,hO,hI_,a0⟩
 cases o77 with
 | nx _ => trivial
 | rt r_ =>
  have hs := zr hs;intro a2 b1 hK;cases hs;exact hK
 | br s73 =>
  have hs := zq hs;rintro a2 a3 ⟨σ,rfl,hC,hO,hI_,a0⟩;refine c_sr (mi rfl (mi rfl (za _ (ysu rfl rfl) (ai rfl (zb (ze (ze (yI (I := fun a e5 => ∃ σ,a = fr 177 (ovl σ [(1,(iv a_)),(2,(iv m)),(3,(iv b)),(4,(pq a1 0)),(16,(iv (w64 (ishr .u64 (IntKind.u64.wrap (w64 (a_ + b))) 1)))),(18,(iv s73.1)),(22,(iv (w64 ((w64 ((w64 (ishr .u64 (IntKind.u64.wrap (w64 (a_ + b))) 1)) + m)) - s73.1)))),(145,(.bool ((decide (s73.1 < m)) && (decide (m < (w64 ((w64 ((w64 (ishr .u64 (IntKind.u64.wrap (w64 (a_ + b))) 1)) + m)) - s73.1)))))))]) ∧ Chg [] a3 e5) ?_ ?_))))))))
  ·have hMid := Chg.refl [] a3;refine zh (mi rfl (mi rfl (za _ (zA rfl rfl) (mb rfl ?_))));rcases Bool.eq_false_or_eq_true ((decide (s73.1 < m))) with a8 | a8
   ·refine py 141 (iv m) (cb a8) (zD rfl) (py 141 (iv (w64 ((w64 ((w64 (ishr .u64 (IntKind.u64.wrap (w64 (a_ + b))) 1)) + m)) - s73.1))) (cb a8) (zD rfl) (py 141 _ (cb a8) (zA rfl rfl) (za (.bool ((decide (s73.1 < m)) && (decide (m < (w64 ((w64 ((w64 (ishr .u64 (IntKind.u64.wrap (w64 (a_ + b))) 1)) + m)) - s73.1)))))) (yF (cb a8) (cb (by rw [a8]; rfl))) (zb ?_))));exact ⟨_,fr_m 177 rfl,hMid⟩
   refine pn 141 (cb a8) (pn 141 (cb a8) (pn 141 (cb a8) (za (.bool ((decide (s73.1 < m)) && (decide (m < (w64 ((w64 ((w64 (ishr .u64 (IntKind.u64.wrap (w64 (a_ + b))) 1)) + m)) - s73.1)))))) (yH (cb a8) (cb (by rw [a8]; rfl))) (zb ?_))));exact ⟨_,fr_m 177 rfl,hMid⟩
  rintro a2 e5 ⟨σ,rfl,b8⟩;have hI_ := hE_.ext hI_ b8 (fun _ h => nomatch h);obtain ⟨a0,hC,hO⟩ := xt3 b8 a0 hC hO;obtain ⟨s91,g8,hs⟩ := bq hs;refine yI (I := fun a b2 => ∃ σ,a = fr 177 (ovl σ [(1,(iv a_)),(3,(iv b)),(4,(pq a1 0)),(16,(iv (w64 (ishr .u64 (IntKind.u64.wrap (w64 (a_ + b))) 1)))),(18,(iv s73.1)),(22,(iv (w64 ((w64 ((w64 (ishr .u64 (IntKind.u64.wrap (w64 (a_ + b))) 1)) + m)) - s73.1))))]) ∧ Chg (G_ ++ []) w b2 ∧ Own (Nw w (G_ ++ [])) M b2 ([a1] ++ (G_ ++ [])) ∧ I_ b2 s91 ∧ BoxV b2 a1 153 [(.func (.func g_) #[] lb_),(.func (.func sf_) #[] sb_)]) ?_ ?_
  ·replace hs := g8;rcases zm hs with ⟨d7,hs⟩ | ⟨d7,hs⟩
   ·refine zl (cb d7) (zh (za _ (ldw rfl vI a0 vF) (mi rfl (mi rfl (mi rfl ?_)))));have hO := hO.fr1;have g9 := Own.lend (F := (G_ ++ [])) (R := [a1] ++ []) (Own.perm hO (by simp));obtain ⟨r97,h0,hs⟩ := bq hs;refine zC Bd148 rfl (vX (M := M) ls_ d_ s73.1 m (w64 ((w64 ((w64 (ishr .u64 (IntKind.u64.wrap (w64 (a_ + b))) 1)) + m)) - s73.1)) (Nat.le_trans hN_ hC.size) hE_ hI_ g9 hO.fut h0) ?_;rintro _ i2 ⟨rfl,d8,h1⟩;have a0 := a0.ap d8 hO ZU mS;have hC := hC.st d8 hO ZU;have hO := hO.ext d8;refine zb ?_;cases hs;have hO := hO.fr1;exact ⟨_,fr_m 177 rfl,hC,hO,h1,a0⟩
   refine zk (cb d7) (wp_skip ?_);cases hs;have hO := hO.fr1.fr1;exact ⟨_,fr_m 177 rfl,hC,hO,hI_,a0⟩
  rintro a2 b2 ⟨σ,rfl,hC,hO,b9,a0⟩;refine ze (ze (yI (I := fun a e6 => ∃ σ,a = fr 177 (ovl σ [(1,(iv a_)),(3,(iv b)),(4,(pq a1 0)),(16,(iv (w64 (ishr .u64 (IntKind.u64.wrap (w64 (a_ + b))) 1)))),(18,(iv s73.1)),(22,(iv (w64 ((w64 ((w64 (ishr .u64 (IntKind.u64.wrap (w64 (a_ + b))) 1)) + m)) - s73.1)))),(158,(.bool ((decide (a_ < s73.1)) && (decide (s73.1 < (w64 (ishr .u64 (IntKind.u64.wrap (w64 (a_ + b))) 1)))))))]) ∧ Chg [] b2 e6) ?_ ?_))
  ·have hMid := Chg.refl [] b2;refine zh (mi rfl (mi rfl (za _ (zA rfl rfl) (mb rfl ?_))));rcases Bool.eq_false_or_eq_true ((decide (a_ < s73.1))) with a9 | a9
   ·refine py 154 (iv s73.1) (cb a9) (zD rfl) (py 154 (iv (w64 (ishr .u64 (IntKind.u64.wrap (w64 (a_ + b))) 1))) (cb a9) (zD rfl) (py 154 _ (cb a9) (zA rfl rfl) (za (.bool ((decide (a_ < s73.1)) && (decide (s73.1 < (w64 (ishr .u64 (IntKind.u64.wrap (w64 (a_ + b))) 1)))))) (yF (cb a9) (cb (by rw [a9]; rfl))) (zb ?_))));exact ⟨_,fr_m 177 rfl,hMid⟩
   refine pn 154 (cb a9) (pn 154 (cb a9) (pn 154 (cb a9) (za (.bool ((decide (a_ < s73.1)) && (decide (s73.1 < (w64 (ishr .u64 (IntKind.u64.wrap (w64 (a_ + b))) 1)))))) (yH (cb a9) (cb (by rw [a9]; rfl))) (zb ?_))));exact ⟨_,fr_m 177 rfl,hMid⟩
  rintro a2 e6 ⟨σ,rfl,c0⟩;have b9 := hE_.ext b9 c0 (fun _ h => nomatch h);obtain ⟨a0,hC,hO⟩ := xt3 c0 a0 hC hO;obtain ⟨s106,h2,hs⟩ := bq hs;refine yI (I := fun a b3 => ∃ σ,a = fr 177 (ovl σ [(3,(iv b)),(4,(pq a1 0)),(16,(iv (w64 (ishr .u64 (IntKind.u64.wrap (w64 (a_ + b))) 1)))),(22,(iv (w64 ((w64 ((w64 (ishr .u64 (IntKind.u64.wrap (w64 (a_ + b))) 1)) + m)) - s73.1))))]) ∧ Chg (G_ ++ []) w b3 ∧ Own (Nw w (G_ ++ [])) M b3 ([a1] ++ (G_ ++ [])) ∧ I_ b3 s106 ∧ BoxV b3 a1 153 [(.func (.func g_) #[] lb_),(.func (.func sf_) #[] sb_)]) ?_ ?_
  ·replace hs := h2;rcases zm hs with ⟨d9,hs⟩ | ⟨d9,hs⟩
   ·refine zl (cb d9) (zh (za _ (ldw rfl vI a0 vF) (mi rfl (mi rfl (mi rfl ?_)))));have hO := hO.fr1;have h3 := Own.lend (F := (G_ ++ [])) (R := [a1] ++ []) (Own.perm hO (by simp));obtain ⟨r112,h4,hs⟩ := bq hs;refine zC Bd140 rfl (c_ih (M := M) ls_ s91 a_ s73.1 (w64 (ishr .u64 (IntKind.u64.wrap (w64 (a_ + b))) 1)) (Nat.le_trans hN_ hC.size) hE_ b9 h3 hO.fut h4) ?_;rintro _ i3 ⟨rfl,e0,h5⟩;have a0 := a0.ap e0 hO ZU mS;have hC := hC.st e0 hO ZU;have hO := hO.ext e0;refine zb ?_;cases hs;have hO := hO.fr1;exact ⟨_,fr_m 177 rfl,hC,hO,h5,a0⟩
   refine zk (cb d9) (wp_skip ?_);cases hs;have hO := hO.fr1.fr1;exact ⟨_,fr_m 177 rfl,hC,hO,b9,a0⟩
  rintro a2 b3 ⟨σ,rfl,hC,hO,c1,a0⟩;refine ze (yI (I := fun a e7 => ∃ σ,a = fr 177 (ovl σ [(3,(iv b)),(4,(pq a1 0)),(16,(iv (w64 (ishr .u64 (IntKind.u64.wrap (w64 (a_ + b))) 1)))),(22,(iv (w64 ((w64 ((w64 (ishr .u64 (IntKind.u64.wrap (w64 (a_ + b))) 1)) + m)) - s73.1)))),(171,(.bool ((decide ((w64 (ishr .u64 (IntKind.u64.wrap (w64 (a_ + b))) 1)) < (w64 ((w64 ((w64 (ishr .u64 (IntKind.u64.wrap (w64 (a_ + b))) 1)) + m)) - s73.1)))) && (decide ((w64 ((w64 ((w64 (ishr .u64 (IntKind.u64.wrap (w64 (a_ + b))) 1)) + m)) - s73.1)) < b)))))]) ∧ Chg [] b3 e7) ?_ ?_)
  ·have hMid := Chg.refl [] b3;refine zh (mi rfl (mi rfl (za _ (zA rfl rfl) (mb rfl ?_))));rcases Bool.eq_false_or_eq_true ((decide ((w64 (ishr .u64 (IntKind.u64.wrap (w64 (a_ + b))) 1)) < (w64 ((w64 ((w64 (ishr .u64 (IntKind.u64.wrap (w64 (a_ + b))) 1)) + m)) - s73.1))))) with b0 | b0
   ·refine py 167 (iv (w64 ((w64 ((w64 (ishr .u64 (IntKind.u64.wrap (w64 (a_ + b))) 1)) + m)) - s73.1))) (cb b0) (zD rfl) (py 167 (iv b) (cb b0) (zD rfl) (py 167 _ (cb b0) (zA rfl rfl) (za (.bool ((decide ((w64 (ishr .u64 (IntKind.u64.wrap (w64 (a_ + b))) 1)) < (w64 ((w64 ((w64 (ishr .u64 (IntKind.u64.wrap (w64 (a_ + b))) 1)) + m)) - s73.1)))) && (decide ((w64 ((w64 ((w64 (ishr .u64 (IntKind.u64.wrap (w64 (a_ + b))) 1)) + m)) - s73.1)) < b)))) (yF (cb b0) (cb (by rw [b0]; rfl))) (zb ?_))));exact ⟨_,fr_m 177 rfl,hMid⟩
   refine pn 167 (cb b0) (pn 167 (cb b0) (pn 167 (cb b0) (za (.bool ((decide ((w64 (ishr .u64 (IntKind.u64.wrap (w64 (a_ + b))) 1)) < (w64 ((w64 ((w64 (ishr .u64 (IntKind.u64.wrap (w64 (a_ + b))) 1)) + m)) - s73.1)))) && (decide ((w64 ((w64 ((w64 (ishr .u64 (IntKind.u64.wrap (w64 (a_ + b))) 1)) + m)) - s73.1)) < b)))) (yH (cb b0) (cb (by rw [b0]; rfl))) (zb ?_))));exact ⟨_,fr_m 177 rfl,hMid⟩
  rintro a2 e7 ⟨σ,rfl,c2⟩;have c1 := hE_.ext c1 c2 (fun _ h => nomatch h);obtain ⟨a0,hC,hO⟩ := xt3 c2 a0 hC hO;rcases zm hs with ⟨e1,hs⟩ | ⟨e1,hs⟩
  ·refine zl (cb e1) (zh (za _ (ldw rfl vI a0 vF) (mi rfl (mi rfl (mi rfl ?_)))));have hO := hO.fr1;have h6 := Own.lend (F := (G_ ++ [])) (R := [a1] ++ []) (Own.perm hO (by simp));obtain ⟨r119,h7,hs⟩ := bq hs;refine zC Bd140 rfl (c_ih (M := M) ls_ s106 (w64 (ishr .u64 (IntKind.u64.wrap (w64 (a_ + b))) 1)) (w64 ((w64 ((w64 (ishr .u64 (IntKind.u64.wrap (w64 (a_ + b))) 1)) + m)) - s73.1)) b (Nat.le_trans hN_ hC.size) hE_ c1 h6 hO.fut h7) ?_;rintro _ i4 ⟨rfl,e2,h8⟩;have a0 := a0.ap e2 hO ZU mS;have hC := hC.st e2 hO ZU;have hO := hO.ext e2;refine zb ?_;cases hs;exact ⟨_,zF 177 trivial,hC,h8⟩
  refine zk (cb e1) (wp_skip ?_);cases hs;exact ⟨_,zF 177 trivial,hC,c1⟩

theorem Bd139 : zK Tryz.prog 139 := zP Tryz.func139 (by kernel_rfl) rfl

def YR (M : Nat → Prop) (w0 : World) {α_ : Type} (I_ : World → List α_ → Prop) (G_ : List Nat) (r : (List α_)) (a : Act) (w : World) : Prop :=
  ∃ σ,a = fr 57 (ovl σ []) ∧ Chg (G_ ++ []) w0 w ∧ I_ w r
def Yj {α_ : Type} (ls_ : α_ → α_ → Option Bool) (d_ : List α_) (n : Int) : Option ((List α_)) :=
  (iter (S := Int × Int × (List α_)) (R := (List α_)) (fun s9 =>
  (bif (decide (s9.2.1 ≤ n)) then (Zz ls_ s9.2.2 s9.1 s9.2.1).bind fun r19 =>
  some (.nx (s9.2.1,w64 (s9.2.1 + 20),r19)) else some (.br (s9.1,s9.2.1,s9.2.2)))) FU (0,20,d_)).bind fun o13 => after o13 (fun r_ => some r_) (fun s9 =>
  (Zz ls_ s9.2.2 s9.1 n).bind fun r21 =>
  (iter (S := Int × Int × Int × (List α_)) (R := (List α_)) (fun s67 =>
  (bif (decide (s67.1 < n)) then (iter (S := Int × Int × (List α_)) (R := (List α_)) (fun s83 =>
  (bif (decide (s83.2.1 ≤ n)) then (zW FU ls_ s83.2.2 s83.1 (w64 (s83.1 + s67.1)) s83.2.1).bind fun r93 =>
  some (.nx (s83.2.1,w64 (s83.2.1 + (w64 (2 * s67.1))),r93)) else some (.br (s83.1,s83.2.1,s83.2.2)))) FU (0,w64 (2 * s67.1),s67.2.2.2)).bind fun o87 => after o87 (fun r_ => some (.rt r_)) (fun s83 =>
  (bif (decide ((w64 (s83.1 + s67.1)) < n)) then (zW FU ls_ s83.2.2 s83.1 (w64 (s83.1 + s67.1)) n).bind fun r96 =>
  some (.nx (w64 (s67.1 * 2),s83.1,s83.2.1,r96)) else some (.nx (w64 (s67.1 * 2),s83.1,s83.2.1,s83.2.2)))) else some (.br (s67.1,s67.2.1,s67.2.2.1,s67.2.2.2)))) FU (20,s9.1,s9.2.1,r21)).bind fun o71 => after o71 (fun r_ => some r_) (fun s67 =>
  some s67.2.2.2))
theorem vQ {α_ : Type} {n0_ : Nat} {I_ : World → List α_ → Prop} {G_ : List Nat} {g_ sf_ : Nat} {lb_ sb_ : Array Value} (ls_ : α_ → α_ → Option Bool) (d_ : List α_) (n : Int) (hN_ : n0_ ≤ w.heap.size) (hE_ : Env Tryz.prog n0_ I_ G_ ls_ g_ lb_ sf_ sb_) (hI_ : I_ w d_) (hI : Own (Nw w (G_ ++ [])) M w (G_ ++ [])) (hM : Hm w M) {r : (List α_)} (hs : Yj ls_ d_ n = some r) :
    Gives Tryz.prog 117 [(.agg #[(.func (.func g_) #[] lb_),(.func (.func sf_) #[] sb_)]),(iv n)] w (fun v w' => v = (.tuple #[]) ∧ Chg (G_ ++ []) w w' ∧ I_ w' r) := by
 refine zx Tryz.func117 rfl Tryz.ntmps117 (nl rfl) ?_;have hO := hI;have hC := Chg.refl (G_ ++ []) w;unfold Yj at hs;refine wp_mono (Q := WM (YR M w I_ G_ r)) ?_ (fun e a a5 h => ?_);rotate_left
 ·cases e
  case ret =>
   obtain ⟨σ,rfl,hrest⟩ := h;exact uA Tryz.results117  ⟨rfl,hrest⟩
  case normal =>
   obtain ⟨σ,rfl,hrest⟩ := h;exact ur Tryz.results117  ⟨rfl,hrest⟩
  all_goals exact (h : False).elim
 refine c_sr ?_;obtain ⟨a5,a1,c1,b6,a7,a0⟩ := zg w [(.func (.func g_) #[] lb_),(.func (.func sf_) #[] sb_)] 153;refine za (w' := a5) (pq a1 0) (Zx rfl (by rw [c1,b6]; kernel_rfl)) ?_;have hI_ := hE_.ext hI_ a7 (fun _ h => nomatch h);have hC := hC.ext a7;have hO := hO.new1 a7 b6 a0.lt;refine zb (c_sr (ai rfl (zb (c_sr (mi rfl (ai rfl (ai rfl (zb (ze ?_)))))))));obtain ⟨o13,c2,hs⟩ := bq hs;refine wp_block (ZG (id := 0) (I := fun s9 a a2 => ∃ σ,a = fr 57 (ovl σ [(1,(iv n)),(2,(pq a1 0)),(4,(iv 20)),(5,(iv s9.1)),(6,(iv s9.2.1))]) ∧ Chg (G_ ++ []) w a2 ∧ Own (Nw w (G_ ++ [])) M a2 ([a1] ++ (G_ ++ [])) ∧ I_ a2 s9.2.2 ∧ BoxV a2 a1 153 [(.func (.func g_) #[] lb_),(.func (.func sf_) #[] sb_)]) (J := fun s9 a a2 => ∃ σ,a = fr 57 (ovl σ [(1,(iv n)),(2,(pq a1 0)),(4,(iv 20)),(5,(iv s9.1)),(6,(iv s9.2.1))]) ∧ Chg (G_ ++ []) w a2 ∧ Own (Nw w (G_ ++ [])) M a2 ([a1] ++ (G_ ++ [])) ∧ I_ a2 s9.2.2 ∧ BoxV a2 a1 153 [(.func (.func g_) #[] lb_),(.func (.func sf_) #[] sb_)]) (K := (YR M w I_ G_)) ?_ FU (0,20,d_) o13 _ _ ?_ c2 ?_)
 ·rintro s9 o13 a a2 ⟨σ,rfl,hC,hO,b7,a0⟩ hs;refine ze (c_sr (mi rfl (mi rfl (za _ (vv rfl rfl) (zb ?_)))));rcases zm hs with ⟨a8,hs⟩ | ⟨a8,hs⟩
  ·refine zl (cb a8) (wp_skip (wp_block (c_sr (za _ (ldw rfl vI a0 vF) (mi rfl (mi rfl ?_))))));have hO := hO.fr1;have c3 := Own.lend (F := (G_ ++ [])) (R := [a1] ++ []) (Own.perm hO (by simp));obtain ⟨r19,c4,hs⟩ := bq hs;refine zC Bd139 rfl (xE (M := M) ls_ s9.2.2 s9.1 s9.2.1 (Nat.le_trans hN_ hC.size) hE_ b7 c3 hO.fut c4) ?_;rintro _ d9 ⟨rfl,a9,c5⟩;have a0 := a0.ap a9 hO ZU mS;have hC := hC.st a9 hO ZU;have hO := hO.ext a9;refine zb (c_sr (mi rfl (ai rfl (zb (zh (mi rfl (mi rfl (za _ (yad rfl rfl) (ai rfl (zb ?_))))))))));cases hs;have hO := hO.fr1;exact ⟨_,fr_m 57 rfl,hC,hO,c5,a0⟩
  refine zk (cb a8) (wp_exit ?_);cases hs;have hO := hO.fr1.fr1;exact ⟨rfl,_,fr_m 57 rfl,hC,hO,b7,a0⟩
 ·have hO := hO.fr1.fr1;exact ⟨_,fr_m 57 rfl,hC,hO,hI_,a0⟩
 cases o13 with
 | nx _ => trivial
 | rt r_ =>
  have hs := zr hs;intro a6 a5 hK;cases hs;exact hK
 | br s9 =>
  have hs := zq hs;rintro a6 a2 ⟨σ,rfl,hC,hO,c6,a0⟩;refine c_sr (za _ (ldw rfl vI a0 vF) (mi rfl (mi rfl ?_)));have hO := hO.fr1;have c7 := Own.lend (F := (G_ ++ [])) (R := [a1] ++ []) (Own.perm hO (by simp));obtain ⟨r21,c8,hs⟩ := bq hs;refine zC Bd139 rfl (xE (M := M) ls_ s9.2.2 s9.1 n (Nat.le_trans hN_ hC.size) hE_ c6 c7 hO.fut c8) ?_;rintro _ e0 ⟨rfl,b0,c9⟩;have a0 := a0.ap b0 hO ZU mS;have hC := hC.st b0 hO ZU;have hO := hO.ext b0;refine zb ?_;obtain ⟨o71,d0,hs⟩ := bq hs;refine wp_block (ZG (id := 2) (I := fun s67 a a3 => ∃ σ,a = fr 57 (ovl σ [(1,(iv n)),(2,(pq a1 0)),(4,(iv s67.1)),(5,(iv s67.2.1)),(6,(iv s67.2.2.1))]) ∧ Chg (G_ ++ []) w a3 ∧ Own (Nw w (G_ ++ [])) M a3 (G_ ++ ([a1] ++ [])) ∧ I_ a3 s67.2.2.2 ∧ BoxV a3 a1 153 [(.func (.func g_) #[] lb_),(.func (.func sf_) #[] sb_)]) (J := fun s67 a a3 => ∃ σ,a = fr 57 (ovl σ []) ∧ Chg (G_ ++ []) w a3 ∧ Own (Nw w (G_ ++ [])) M a3 (G_ ++ ([a1] ++ [])) ∧ I_ a3 s67.2.2.2 ∧ BoxV a3 a1 153 [(.func (.func g_) #[] lb_),(.func (.func sf_) #[] sb_)]) (K := (YR M w I_ G_)) ?_ FU (20,s9.1,s9.2.1,r21) o71 _ _ ?_ d0 ?_)
  ·rintro s67 o71 a a3 ⟨σ,rfl,hC,hO,b8,a0⟩ hs;refine ze (c_sr (mi rfl (mi rfl (za _ (zA rfl rfl) (zb ?_)))));rcases zm hs with ⟨b1,hs⟩ | ⟨b1,hs⟩
   ·refine zl (cb b1) (wp_skip (wp_block (c_sr (mi rfl (za _ (ymu rfl rfl) (ai rfl (ai rfl (zb (ze ?_)))))))));obtain ⟨o87,d1,hs⟩ := bq hs;refine wp_block (ZG (id := 4) (I := fun s83 a a4 => ∃ σ,a = fr 57 (ovl σ [(1,(iv n)),(2,(pq a1 0)),(4,(iv s67.1)),(5,(iv s83.1)),(6,(iv s83.2.1))]) ∧ Chg (G_ ++ []) w a4 ∧ Own (Nw w (G_ ++ [])) M a4 (G_ ++ ([a1] ++ [])) ∧ I_ a4 s83.2.2 ∧ BoxV a4 a1 153 [(.func (.func g_) #[] lb_),(.func (.func sf_) #[] sb_)]) (J := fun s83 a a4 => ∃ σ,a = fr 57 (ovl σ [(1,(iv n)),(2,(pq a1 0)),(4,(iv s67.1)),(5,(iv s83.1)),(6,(iv s83.2.1))]) ∧ Chg (G_ ++ []) w a4 ∧ Own (Nw w (G_ ++ [])) M a4 (G_ ++ ([a1] ++ [])) ∧ I_ a4 s83.2.2 ∧ BoxV a4 a1 153 [(.func (.func g_) #[] lb_),(.func (.func sf_) #[] sb_)]) (K := (YR M w I_ G_)) ?_ FU (0,w64 (2 * s67.1),s67.2.2.2) o87 _ _ ?_ d1 ?_)
    ·rintro s83 o87 a a4 ⟨σ,rfl,hC,hO,b9,a0⟩ hs;refine ze (c_sr (mi rfl (mi rfl (za _ (vv rfl rfl) (zb ?_)))));rcases zm hs with ⟨b2,hs⟩ | ⟨b2,hs⟩
     ·refine zl (cb b2) (wp_skip (wp_block (c_sr (za _ (ldw rfl vI a0 vF) (mi rfl (mi rfl (mi rfl (za _ (yad rfl rfl) (mi rfl ?_)))))))));have d2 := Own.lend (F := (G_ ++ [])) (R := [a1] ++ []) (Own.perm hO (by simp));obtain ⟨r93,d3,hs⟩ := bq hs;refine zC Bd140 rfl (XF (M := M) FU ls_ s83.2.2 s83.1 (w64 (s83.1 + s67.1)) s83.2.1 (Nat.le_trans hN_ hC.size) hE_ b9 d2 hO.fut d3) ?_;rintro _ e1 ⟨rfl,b3,d4⟩;have a0 := a0.ap b3 hO ZU mS;have hC := hC.st b3 hO ZU;have hO := hO.ext b3;refine zb (c_sr (mi rfl (ai rfl (zb (zh (mi rfl (mi rfl (za _ (ymu rfl rfl) (za _ (yad rfl rfl) (ai rfl (zb ?_)))))))))));cases hs;have hO := hO.fr1.fr1;exact ⟨_,fr_m 57 rfl,hC,hO,d4,a0⟩
     refine zk (cb b2) (wp_exit ?_);cases hs;have hO := hO.fr1.fr1;exact ⟨rfl,_,fr_m 57 rfl,hC,hO,b9,a0⟩
    ·have hO := hO.fr1.fr1;exact ⟨_,fr_m 57 rfl,hC,hO,b8,a0⟩
    cases o87 with
    | nx _ => trivial
    | rt r_ =>
     have hs := zr hs;intro a6 a5 hK;cases hs;exact hK
    | br s83 =>
     have hs := zq hs;rintro a6 a4 ⟨σ,rfl,hC,hO,c0,a0⟩;refine ze (c_sr (mi rfl (mi rfl (za _ (yad rfl rfl) (ai rfl (zb (c_sr (mi rfl (mi rfl (za _ (zA rfl rfl) (zb ?_)))))))))));rcases zm hs with ⟨b4,hs⟩ | ⟨b4,hs⟩
     ·refine zl (cb b4) (zh (za _ (ldw rfl vI a0 vF) (mi rfl (mi rfl (mi rfl ?_)))));have d5 := Own.lend (F := (G_ ++ [])) (R := [a1] ++ []) (Own.perm hO (by simp));obtain ⟨r96,d6,hs⟩ := bq hs;refine zC Bd140 rfl (XF (M := M) FU ls_ s83.2.2 s83.1 (w64 (s83.1 + s67.1)) n (Nat.le_trans hN_ hC.size) hE_ c0 d5 hO.fut d6) ?_;rintro _ e2 ⟨rfl,b5,d7⟩;have a0 := a0.ap b5 hO ZU mS;have hC := hC.st b5 hO ZU;have hO := hO.ext b5;refine zb (zh (mi rfl (za _ (ymu rfl rfl) (ai rfl (zb ?_)))));cases hs;have hO := hO.fr1.fr1;exact ⟨_,fr_m 57 rfl,hC,hO,d7,a0⟩
     refine zk (cb b4) (wp_skip (zh (mi rfl (za _ (ymu rfl rfl) (ai rfl (zb ?_))))));cases hs;have hO := hO.fr1.fr1;exact ⟨_,fr_m 57 rfl,hC,hO,c0,a0⟩
   refine zk (cb b1) (wp_exit ?_);cases hs;have hO := hO.fr1.fr1;exact ⟨rfl,_,zF 57 trivial,hC,hO,b8,a0⟩
  ·have hO := hO.fr1.fr1;exact ⟨_,fr_m 57 rfl,hC,hO,c9,a0⟩
  cases o71 with
  | nx _ => trivial
  | rt r_ =>
   have hs := zr hs;intro a6 a5 hK;cases hs;exact hK
  | br s67 =>
   have hs := zq hs;rintro a6 a3 ⟨σ,rfl,hC,hO,d8,a0⟩;cases hs;exact ⟨_,zF 57 trivial,hC,d8⟩

def XQ (M : Nat → Prop) (w0 : World) (r : Int) (a : Act) (w : World) : Prop :=
  ∃ σ,a = fr 48 (ovl σ [(4,(iv r))]) ∧ Chg [] w0 w
def yP (s_ : List Int) (t : List Int) : Option (Int) :=
  (iter (S := Int) (R := Int) (fun s25 =>
  (bif ((decide (s25 < (s_.length : Int))) && (decide (s25 < (t.length : Int)))) then (idx s_ s25).bind fun x42 =>
  (idx t s25).bind fun x44 =>
  (bif (x42 != x44) then (idx s_ s25).bind fun x48 =>
  (idx t s25).bind fun x50 =>
  (bif (decide (x48 < x50)) then some (.rt (-1)) else some (.rt 1)) else some (.nx (w64 (s25 + 1)))) else some (.br s25))) FU 0).bind fun o29 => after o29 (fun r_ => some r_) (fun s25 =>
  (bif (decide ((s_.length : Int) < (t.length : Int))) then some (-1) else (bif (decide ((t.length : Int) < (s_.length : Int))) then some 1 else some 0)))
theorem vp (s_ : List Int) (t : List Int) (h0 : rl.val M w (sv pa0 pn0 pc0) s_ []) (h1 : rl.val M w (sv pa1 pn1 pc1) t []) (hM : Hm w M) {r : Int} (hs : yP s_ t = some r) :
    Gives Tryz.prog 98 [(sv pa0 pn0 pc0),(sv pa1 pn1 pc1)] w (fun v w' => v = (iv r) ∧ Chg [] w w') := by
 refine zx Tryz.func98 rfl Tryz.ntmps98 (nl rfl) ?_;obtain ⟨hO,hC⟩ := st0 hM;unfold yP at hs;refine wp_k (K := (XQ M w r)) (by rintro _ _ ⟨σ,rfl,hrest⟩; exact Zd Tryz.results98 (zH rfl) ⟨rfl,hrest⟩) (c_sr (ai rfl (zb (ze (c_sr (ai rfl (zb ?_)))))));obtain ⟨o29,b6,hs⟩ := bq hs;refine wp_block (ZG (id := 0) (I := fun s25 a a0 => ∃ σ,a = fr 48 (ovl σ [(0,(sv pa0 pn0 pc0)),(1,(sv pa1 pn1 pc1)),(5,(iv s25))]) ∧ Chg [] w a0 ∧ Own (Nw w []) M a0 [] ∧ rl.val M a0 (sv pa0 pn0 pc0) s_ [] ∧ rl.val M a0 (sv pa1 pn1 pc1) t []) (J := fun s25 a a0 => ∃ σ,a = fr 48 (ovl σ [(0,(sv pa0 pn0 pc0)),(1,(sv pa1 pn1 pc1))]) ∧ Chg [] w a0 ∧ Own (Nw w []) M a0 [] ∧ rl.val M a0 (sv pa0 pn0 pc0) s_ [] ∧ rl.val M a0 (sv pa1 pn1 pc1) t []) (K := (XQ M w)) ?_ FU 0 o29 _ _ ?_ b6 ?_)
 ·rintro s25 o29 a a0 ⟨σ,rfl,hC,hO,h0,h1⟩ hs;refine ze (ze (yI (I := fun a a4 => ∃ σ,a = fr 48 (ovl σ [(0,(sv pa0 pn0 pc0)),(1,(sv pa1 pn1 pc1)),(5,(iv s25)),(15,(.bool ((decide (s25 < (s_.length : Int))) && (decide (s25 < (t.length : Int))))))]) ∧ Chg [] a0 a4) ?_ ?_))
  ·have hMid := Chg.refl [] a0;refine zh (mi rfl (ms rfl (za _ (zt Sl48 (zB h0) rfl) (za _ (zA rfl rfl) (mb rfl ?_)))));rcases Bool.eq_false_or_eq_true ((decide (s25 < (s_.length : Int)))) with a1 | a1
   ·refine py 10 (iv s25) (cb a1) (zD rfl) (py 10 (sv pa1 pn1 pc1) (cb a1) (zD rfl) (py 10 _ (cb a1) (zt Sl48 (zB h1) rfl) (py 10 _ (cb a1) (zA rfl rfl) (za (.bool ((decide (s25 < (s_.length : Int))) && (decide (s25 < (t.length : Int))))) (yF (cb a1) (cb (by rw [a1]; rfl))) (zb ?_)))));exact ⟨_,fr_m 48 rfl,hMid⟩
   refine pn 10 (cb a1) (pn 10 (cb a1) (pn 10 (cb a1) (pn 10 (cb a1) (za (.bool ((decide (s25 < (s_.length : Int))) && (decide (s25 < (t.length : Int))))) (yH (cb a1) (cb (by rw [a1]; rfl))) (zb ?_)))));exact ⟨_,fr_m 48 rfl,hMid⟩
  rintro b4 a4 ⟨σ,rfl,a5⟩;obtain ⟨h0,h1,hC,hO⟩ := xt4 a5 h0 h1 hC hO;rcases zm hs with ⟨a6,hs⟩ | ⟨a6,hs⟩
  ·refine zl (cb a6) (wp_skip (ze (wp_block (ze (Za [] Mx rfl ?_)))));have a3 := Chg.drew a4;generalize World.drew a4 = a7 at a3 ⊢;obtain ⟨h0,h1,hC,hO⟩ := xt4 a3 h0 h1 hC hO;have hS := Chg.refl [] a7;refine xms 0 rfl rfl hS (xmi 1 rfl rfl hS ?_);obtain ⟨x42,b7,hs⟩ := bq hs;obtain ⟨b8,b9,c0,a8⟩ := zI Sl48 Sz3 h0 b7;refine xq 2 _ rfl (ip c0 rfl rfl) hS (x_l 3 (iv x42) rfl (by kernel_rfl) (fun w' hw' => zo rfl ((zp Ag3 Sz3 a8) w' hw')) hS (xms 4 rfl rfl hS (xmi 5 rfl rfl hS ?_)));obtain ⟨x44,c1,hs⟩ := bq hs;obtain ⟨c2,c3,c4,a9⟩ := zI Sl48 Sz3 h1 c1;refine xq 6 _ rfl (ip c4 rfl rfl) hS (x_l 7 (iv x44) rfl (by kernel_rfl) (fun w' hw' => zo rfl ((zp Ag3 Sz3 a9) w' hw')) hS (xq 8 (.bool (x42 != x44)) rfl (Xp rfl rfl) hS (xe ?_)));clear hS;rcases zm hs with ⟨b0,hs⟩ | ⟨b0,hs⟩
   ·refine zl (cb b0) (ze (ze (Za [] Mx rfl ?_)));have a2 := Chg.drew a7;generalize World.drew a7 = c5 at a2 ⊢;obtain ⟨h0,h1,a8,a9,hC,hO⟩ := xt6 a2 h0 h1 a8 a9 hC hO;have hS := Chg.refl [] c5;refine xms 0 rfl rfl hS (xmi 1 rfl rfl hS ?_);obtain ⟨x48,c6,hs⟩ := bq hs;obtain ⟨c7,c8,c9,d0⟩ := zI Sl48 Sz3 h0 c6;refine xq 2 _ rfl (ip c9 rfl rfl) hS (x_l 3 (iv x48) rfl (by kernel_rfl) (fun w' hw' => zo rfl ((zp Ag3 Sz3 d0) w' hw')) hS (xms 4 rfl rfl hS (xmi 5 rfl rfl hS ?_)));obtain ⟨x50,d1,hs⟩ := bq hs;obtain ⟨d2,d3,d4,d5⟩ := zI Sl48 Sz3 h1 d1;refine xq 6 _ rfl (ip d4 rfl rfl) hS (x_l 7 (iv x50) rfl (by kernel_rfl) (fun w' hw' => zo rfl ((zp Ag3 Sz3 d5) w' hw')) hS (xq 8 _ rfl (zA rfl rfl) hS (xe ?_)));clear hS;rcases zm hs with ⟨b1,hs⟩ | ⟨b1,hs⟩
    ·refine zl (cb b1) (c_sr (ai rfl (zb (wp_ret ?_))));cases hs;exact ⟨_,fr_m 48 rfl,hC⟩
    refine zk (cb b1) (wp_skip (c_sr (ai rfl (zb (wp_ret ?_)))));cases hs;exact ⟨_,fr_m 48 rfl,hC⟩
   refine zk (cb b0) (wp_skip (zh (mi rfl (za _ (yad rfl rfl) (ai rfl (zb ?_))))));cases hs;exact ⟨_,fr_m 48 rfl,hC,hO,h0,h1⟩
  refine zk (cb a6) (wp_exit ?_);cases hs;exact ⟨rfl,_,fr_m 48 rfl,hC,hO,h0,h1⟩
 ·exact ⟨_,fr_m 48 rfl,hC,hO,h0,h1⟩
 cases o29 with
 | nx _ => trivial
 | rt r_ =>
  have hs := zr hs;intro b4 b5 hK;cases hs;exact hK
 | br s25 =>
  have hs := zq hs;rintro b4 a0 ⟨σ,rfl,hC,hO,h0,h1⟩;refine ze (wp_block (c_sr (ms rfl (za _ (zt Sl48 (zB h0) rfl) (ms rfl (za _ (zt Sl48 (zB h1) rfl) (za _ (zA rfl rfl) (ab rfl (zb ?_)))))))));rcases zm hs with ⟨b2,hs⟩ | ⟨b2,hs⟩
  ·refine zl (cb b2) (c_sr (ai rfl (zb (wp_ret ?_))));cases hs;exact ⟨_,fr_m 48 rfl,hC⟩
  refine zk (cb b2) (c_sr (ms rfl (za _ (zt Sl48 (zB h0) rfl) (ms rfl (za _ (zt Sl48 (zB h1) rfl) (za _ (xg rfl rfl) (ab rfl (zb ?_))))))));rcases zm hs with ⟨b3,hs⟩ | ⟨b3,hs⟩
  ·refine zl (cb b3) (c_sr (ai rfl (zb (wp_ret ?_))));cases hs;exact ⟨_,fr_m 48 rfl,hC⟩
  refine zk (cb b3) (wp_skip (c_sr (ai rfl (zb (wp_ret ?_)))));cases hs;exact ⟨_,fr_m 48 rfl,hC⟩

theorem Bd98 : zK Tryz.prog 98 := zP Tryz.func98 (by kernel_rfl) rfl

def vq (M : Nat → Prop) (w0 : World) (r : Int) (a : Act) (w : World) : Prop :=
  ∃ σ,a = fr 20 (ovl σ [(4,(iv r))]) ∧ Chg [] w0 w
def ZL (s_ : List Int) (t : List Int) : Option (Int) :=
  (bif (decide ((s_.length : Int) < (t.length : Int))) then some (-1) else (bif (decide ((t.length : Int) < (s_.length : Int))) then some 1 else (yP s_ t).bind fun r6 =>
  some r6))
theorem vo (s_ : List Int) (t : List Int) (h0 : rl.val M w (sv pa0 pn0 pc0) s_ []) (h1 : rl.val M w (sv pa1 pn1 pc1) t []) (hM : Hm w M) {r : Int} (hs : ZL s_ t = some r) :
    Gives Tryz.prog 59 [(sv pa0 pn0 pc0),(sv pa1 pn1 pc1)] w (fun v w' => v = (iv r) ∧ Chg [] w w') := by
 refine zx Tryz.func59 rfl Tryz.ntmps59 (nl rfl) ?_;obtain ⟨hO,hC⟩ := st0 hM;unfold ZL at hs;refine wp_k (K := (vq M w r)) (by rintro _ _ ⟨σ,rfl,hrest⟩; exact Zd Tryz.results59 (zH rfl) ⟨rfl,hrest⟩) (c_sr (ai rfl (zb (ze (wp_block (c_sr (ms rfl (za _ (zt Sl48 (zB h0) rfl) (ms rfl (za _ (zt Sl48 (zB h1) rfl) (za _ (zA rfl rfl) (ab rfl (zb ?_)))))))))))));rcases zm hs with ⟨a1,hs⟩ | ⟨a1,hs⟩
 ·refine zl (cb a1) (c_sr (ai rfl (zb (wp_ret ?_))));cases hs;exact ⟨_,fr_m 20 rfl,hC⟩
 refine zk (cb a1) (c_sr (ms rfl (za _ (zt Sl48 (zB h0) rfl) (ms rfl (za _ (zt Sl48 (zB h1) rfl) (za _ (xg rfl rfl) (ab rfl (zb ?_))))))));rcases zm hs with ⟨a2,hs⟩ | ⟨a2,hs⟩
 ·refine zl (cb a2) (c_sr (ai rfl (zb (wp_ret ?_))));cases hs;exact ⟨_,fr_m 20 rfl,hC⟩
 refine zk (cb a2) (wp_skip (c_sr (ms rfl (ms rfl ?_))));obtain ⟨r6,a3,hs⟩ := bq hs;refine zC Bd98 rfl (vp (M := M) s_ t h0 h1 hO.fut a3) ?_;rintro _ a5 ⟨rfl,a0⟩;obtain ⟨h0,h1,hC,hO⟩ := xt4 a0 h0 h1 hC hO;refine ai rfl (zb (wp_ret ?_));cases hs;exact ⟨_,fr_m 20 rfl,hC⟩

theorem Bd54 : zK Tryz.prog 54 := zP Tryz.func54 (by kernel_rfl) rfl

theorem Bd55 : zK Tryz.prog 55 := zP Tryz.func55 (by kernel_rfl) rfl

theorem Bd56 : zK Tryz.prog 56 := zP Tryz.func56 (by kernel_rfl) rfl

theorem Bd57 : zK Tryz.prog 57 := zP Tryz.func57 (by kernel_rfl) rfl

theorem Zv4 : ∀ w,(zeroValue 4).run Tryz.prog w = .ok (Value.bool false) w := fun _ => by kernel_rfl

theorem Ag101 : AggT Tryz.prog 101 false := fun _ => by kernel_rfl

theorem Sz101 : SzT Tryz.prog 101 1 := ⟨_,rfl,rfl⟩

theorem Bd59 : zK Tryz.prog 59 := zP Tryz.func59 (by kernel_rfl) rfl

def xF (M : Nat → Prop) (w0 : World) (r : Bool) (a : Act) (w : World) : Prop :=
  ∃ σ,a = fr 18 (ovl σ [(6,(.bool r))]) ∧ Chg [] w0 w
def ZW (tab1 : List (List Int)) (i : Int) (j : Int) : Option (Bool) :=
  (idx tab1 i).bind fun x5 =>
  (idx tab1 j).bind fun x9 =>
  (ZL x5 x9).bind fun r14 =>
  some (decide (r14 < 0))
theorem xG {gv0 : Nat} {gv1 : Nat} (tab1 : tM) (i : Int) (j : Int) (hbgv0 : BoxV w gv0 101 [(.func (.func 59) #[] #[])]) (h1 : rm.val M w (sv pa1 pn1 pc1) tab1 []) (hbgv1 : BoxV w gv1 56 [(sv pa1 pn1 pc1)]) (hM : Hm w M) {r : Bool} (hs : ZW tab1 i j = some r) :
    Gives Tryz.prog 97 [(iv i),(iv j),(pq gv0 0),(pq gv1 0)] w (fun v w' => v = (.bool r) ∧ Chg [] w w') := by
 refine zx Tryz.func97 rfl Tryz.ntmps97 (nl rfl) ?_;obtain ⟨hO,hC⟩ := st0 hM;unfold ZW at hs;refine wp_k (K := (xF M w r)) (by rintro _ _ ⟨σ,rfl,hrest⟩; exact Zd Tryz.results97 (zH rfl) ⟨rfl,hrest⟩) (c_sr (ab rfl (zb (ze (Za [9] Mx rfl ?_)))));have a1 := Chg.drew w;generalize World.drew w = a6 at a1 ⊢;obtain ⟨hbgv0,h1,hbgv1,hC,hO⟩ := xt5 a1 hbgv0 h1 hbgv1 hC hO;have hS := Chg.refl [] a6;refine xl 0 rfl (ldx rfl Ag101 Sz101 hbgv0 rfl) hS (xl 1 rfl (ldx rfl Ag56 Sz56 hbgv1 rfl) hS (xmi 2 rfl rfl hS ?_));obtain ⟨x5,a7,hs⟩ := bq hs;obtain ⟨a8,a9,b0,a4⟩ := zI Sl56 Sz48 h1 a7;refine xq 3 _ rfl (ip b0 rfl rfl) hS ?_;obtain ⟨c5,b1,a2⟩ := zT Ag48 Sz48 (fun _ => rfl) a4;obtain ⟨b2,b3,b4,rfl⟩ := Zw a2;refine x_l 4 (sv b2 b3 b4) rfl (by kernel_rfl) (fun w' hw' => zo rfl (b1 w' hw')) hS (xl 5 rfl (ldx rfl Ag56 Sz56 hbgv1 rfl) hS (xmi 6 rfl rfl hS ?_));obtain ⟨x9,b5,hs⟩ := bq hs;obtain ⟨b6,b7,b8,a5⟩ := zI Sl56 Sz48 h1 b5;refine xq 7 _ rfl (ip b8 rfl rfl) hS ?_;obtain ⟨c6,b9,a3⟩ := zT Ag48 Sz48 (fun _ => rfl) a5;obtain ⟨c0,c1,c2,rfl⟩ := Zw a3;refine x_l 8 (sv c0 c1 c2) rfl (by kernel_rfl) (fun w' hw' => zo rfl (b9 w' hw')) hS (zN (i := 9) (by kernel_rfl) ?_);obtain ⟨r14,c3,hs⟩ := bq hs;refine xk_callv (b := true) rfl (h := rfl) Bd59 rfl (vo (M := M) x5 x9 a2 a3 hO.fut c3) rfl (fun h => nomatch h) ?_;rintro _ c7 ⟨rfl,a0⟩;obtain ⟨hbgv0,h1,hbgv1,a2,a3,a4,a5,hC⟩ := xt8 a0 hbgv0 h1 hbgv1 a2 a3 a4 a5 hC;have hO := hO.ext a0;refine x_p 10 (.bool (decide (r14 < 0))) rfl (by kernel_rfl) (fun _ => zA rfl rfl) (fun h => nomatch h) (x_p 11 (.bool (decide (r14 < 0))) rfl (by kernel_rfl) (fun _ => zG rfl) (fun h => nomatch h) (xe ?_));clear hS;refine wp_ret ?_;cases hs;exact ⟨_,fr_m 18 rfl,hC⟩

theorem Fx115 : ∀ args W,(callFunc 115 args).run Tryz.prog W = (((fun args : Array Value => Extern.ReflectliteValue.unpack (args.getD 0 (.tuple #[]))) args).run Tryz.prog W).andThen fun v w' => .ok (.value v) w' := fun args W => run_callFunc_extern Tryz.func115 (by kernel_rfl) (by kernel_rfl) (by kernel_rfl) (e := (fun args : Array Value => Extern.ReflectliteValue.unpack (args.getD 0 (.tuple #[])))) (by kernel_rfl) args W

theorem Ti56 : ∃ i,Tryz.prog.info? 56 = some i ∧ i.desc = .slice 48 := ⟨(Tryz.prog.info? 56).get (by kernel_rfl),by kernel_rfl,by kernel_rfl⟩

theorem Sz147 : SzT Tryz.prog 147 3 := ⟨_,rfl,rfl⟩

theorem Fx116 : ∀ args W,(callFunc 116 args).run Tryz.prog W = (((Extern.ReflectliteSwapper.swapper "internal/reflectlite" (Extern.ReflectliteValue.valueError "Swapper")) args).run Tryz.prog W).andThen fun v w' => .ok (.value v) w' := fun args W => run_callFunc_extern Tryz.func116 (by kernel_rfl) (by kernel_rfl) (by kernel_rfl) (e := (Extern.ReflectliteSwapper.swapper "internal/reflectlite" (Extern.ReflectliteValue.valueError "Swapper"))) (by kernel_rfl) args W

theorem Ke48 : ∀ w,(Extern.Rtype.kind 48).run Tryz.prog w = .ok 23 w := fun _ => by kernel_rfl

theorem Ag147 : AggT Tryz.prog 147 true := fun _ => by kernel_rfl

theorem Fx118 : ∀ args W,(callFunc 118 args).run Tryz.prog W = (((Extern.ReflectliteValue.method (Extern.ReflectliteValue.valueError "reflectlite.Value.Len" 0) Extern.ReflectliteValue.len) args).run Tryz.prog W).andThen fun v w' => .ok (.value v) w' := fun args W => run_callFunc_extern Tryz.func118 (by kernel_rfl) (by kernel_rfl) (by kernel_rfl) (e := (Extern.ReflectliteValue.method (Extern.ReflectliteValue.valueError "reflectlite.Value.Len" 0) Extern.ReflectliteValue.len)) (by kernel_rfl) args W

theorem Pk56 : Tryz.prog.packed 56 = false := by kernel_rfl

theorem Bd117 : zK Tryz.prog 117 := zP Tryz.func117 (by kernel_rfl) rfl

def vW (M : Nat → Prop) (w0 : World) {α_ : Type} (I_ : World → List α_ → Prop) (G_ : List Nat) (r : (List α_)) (a : Act) (w : World) : Prop :=
  ∃ σ,a = fr 16 (ovl σ []) ∧ Chg (G_ ++ []) w0 w ∧ I_ w r
def Yg {α_ : Type} (ls_ : α_ → α_ → Option Bool) (d_ : List α_) (n_ : Nat) : Option ((List α_)) :=
  (Yj ls_ d_ (n_ : Int)).bind fun r7 =>
  some r7
theorem vS {a_ : OA} {c_ : Nat} {ie_ : TypeInfo} {α_ : Type} {n0_ : Nat} {I_ : World → List α_ → Prop} {G_ : List Nat} {g_ sf_ : Nat} {lb_ : Array Value} (ls_ : α_ → α_ → Option Bool) (d_ : List α_) (n_ : Nat) (hN_ : n0_ ≤ w.heap.size) (hie_ : Tryz.prog.info? 48 = some ie_) (hf_ : Tryz.prog.funcs.findIdx? (·.name == "internal/reflectlite" ++ ".Swapper$" ++ toString (Go.Lib.swapperK n_ ie_ 23)) = some sf_) (hE_ : Env Tryz.prog n0_ I_ G_ ls_ g_ lb_ sf_ (if Go.Lib.swapperK n_ ie_ 23 ≤ 2 then #[] else #[.slice a_ n_ c_,typeHandle Tryz.prog 48])) (hI_ : I_ w d_) (hI : Own (Nw w (G_ ++ [])) M w (G_ ++ [])) (hM : Hm w M) {r : (List α_)} (hs : Yg ls_ d_ n_ = some r) :
    Gives Tryz.prog 96 [(.iface 56 (sv a_ n_ c_)),(.func (.func g_) #[] lb_)] w (fun v w' => v = (.tuple #[]) ∧ Chg (G_ ++ []) w w' ∧ I_ w' r) := by
 refine zx Tryz.func96 rfl Tryz.ntmps96 (nl rfl) ?_;have hO := hI;have hC := Chg.refl (G_ ++ []) w;unfold Yg at hs;refine wp_mono (Q := WM (vW M w I_ G_ r)) ?_ (fun e a a6 h => ?_);rotate_left
 ·cases e
  case ret =>
   obtain ⟨σ,rfl,hrest⟩ := h;exact uA Tryz.results96  ⟨rfl,hrest⟩
  case normal =>
   obtain ⟨σ,rfl,hrest⟩ := h;exact ur Tryz.results96  ⟨rfl,hrest⟩
  all_goals exact (h : False).elim
 refine c_sr (za (.iface 56 (sv a_ n_ c_)) (zD rfl) ?_);obtain ⟨b3,b4,b5⟩ := Ti56;obtain ⟨a6,a1,b6,a9,a7,a0⟩ := zg w [(sv a_ n_ c_)] 56;refine za (w' := a6) (.agg #[(typeHandle Tryz.prog 56),(pq a1 0),(.int .u64 151)]) (zbH rfl rfl (by rw [Fx115]; show Result.andThen (Sem.run Tryz.prog (Extern.ReflectliteValue.unpack (.iface 56 (sv a_ n_ c_))) _) _ = _; rw [Go.Lib.run_valueOf_slice 56 48 b3 b4 b5,b6,a9]; rfl)) ?_;have hI_ := hE_.ext hI_ a7 (fun _ h => nomatch h);have hC := hC.ext a7;have hO := hO.new1 a7 a9 a0.lt;obtain ⟨b7,a8,b8,b0,a3,b1⟩ := zg a6 [(.pointer none),(.pointer none),(.int .u64 0)] 147;refine za (w' := b7) (pq a8 0) (Zy (by rw [b8,b0]; kernel_rfl)) ?_;have hI_ := hE_.ext hI_ a3 (fun _ h => nomatch h);obtain ⟨a0,hC⟩ := xt2 a3 a0 hC;have hO := hO.new1 a3 b0 b1.lt;obtain ⟨b2,b9,a4,a2⟩ := zM (P := Tryz.prog) b1 [] [(.pointer none),(.pointer none),(.int .u64 0)] [] [(typeHandle Tryz.prog 56),(pq a1 0),(.int .u64 151)] rfl rfl (oc rfl);refine zS (w' := b2) (zL rfl rfl (b9 _ _ rfl Sz147)) ?_;have hI_ := hE_.ext hI_ a4 (fun q hq => Nat.le_trans hN_ ((hO.inN q ((fun _ h => h) q hq)).resolve_left (fun e => hO.apart q ((fun _ h => h) q hq) (zd (zn (ZU q e))))));have a0 := a0.ap a4 hO zf mS;have hC := hC.st a4 hO zf;have hO := hO.ext a4;have a2 : BoxV b2 a8 147 [(typeHandle Tryz.prog 56),(pq a1 0),(.int .u64 151)] := a2;refine zb (c_sr (za (.iface 56 (sv a_ n_ c_)) (zD rfl) ?_));obtain ⟨c0,c1,c2⟩ := Ti56;refine za (.func (.func sf_) #[] (if Go.Lib.swapperK n_ ie_ 23 ≤ 2 then #[] else #[.slice a_ n_ c_,typeHandle Tryz.prog 48])) ((zbH rfl rfl (by rw [Fx116]; show Result.andThen (Sem.run Tryz.prog (Extern.ReflectliteSwapper.swapper "internal/reflectlite" (Extern.ReflectliteValue.valueError "Swapper") #[(.iface 56 (sv a_ n_ c_))]) _) _ = _; rw [Go.Lib.run_swapper_slice 56 48 c0 ie_ c1 c2 hie_ 23 Ke48 a_ n_ c_ sf_ hf_]; rfl))) (za (.func (.func sf_) #[] (if Go.Lib.swapperK n_ ie_ 23 ≤ 2 then #[] else #[.slice a_ n_ c_,typeHandle Tryz.prog 48])) (zG rfl) (zb (zh (za (.func (.func g_) #[] lb_) (zD rfl) (za (.func (.func sf_) #[] (if Go.Lib.swapperK n_ ie_ 23 ≤ 2 then #[] else #[.slice a_ n_ c_,typeHandle Tryz.prog 48])) (zD rfl) (za (.agg #[(.func (.func g_) #[] lb_),(.func (.func sf_) #[] (if Go.Lib.swapperK n_ ie_ 23 ≤ 2 then #[] else #[.slice a_ n_ c_,typeHandle Tryz.prog 48]))]) (yj rfl (by kernel_rfl)) (za _ (ldw rfl Ag147 a2 Sz147) ?_)))))));obtain ⟨c3,c4,c5⟩ := Ti56;refine za (iv (n_ : Int)) ((zbH rfl rfl (by rw [Fx118]; show Result.andThen (Sem.run Tryz.prog (Extern.ReflectliteValue.method (Extern.ReflectliteValue.valueError "reflectlite.Value.Len" 0) Extern.ReflectliteValue.len #[(.agg #[(typeHandle Tryz.prog 56),(pq a1 0),(.int .u64 151)])]) _) _ = _; rw [Go.Lib.run_valueLen_slice 56 48 c3 c4 c5 Pk56 _ _ _ _ _ (box_cell a0)]; rfl))) ?_;have hO := hO.fr2;have c6 := Own.lend (F := (G_ ++ [])) (R := [a8] ++ ([a1] ++ [])) (Own.perm hO (by simp));obtain ⟨r7,c7,hs⟩ := bq hs;refine zC Bd117 rfl (vQ (M := M) ls_ d_ (n_ : Int) (Nat.le_trans hN_ hC.size) hE_ hI_ c6 hO.fut c7) ?_;rintro _ c9 ⟨rfl,a5,c8⟩;have a0 := a0.ap a5 hO ZU (zd mS);have a2 := a2.ap a5 hO ZU mS;have hC := hC.st a5 hO ZU;have hO := hO.ext a5;refine zb ?_;cases hs;exact ⟨_,zF 16 trivial,hC,c8⟩

theorem Ei48 : ∃ ie,Tryz.prog.info? 48 = some ie ∧ ie.size = 1 ∧ ie.hasPointers = true ∧ (ie.bytes == 8) = false := ⟨(Tryz.prog.info? 48).get (by kernel_rfl),by kernel_rfl,by kernel_rfl,by kernel_rfl,by kernel_rfl⟩

theorem Fs2 : ∀ W,(callFunc 131 #[.int .i64 0,.int .i64 0]).run Tryz.prog W = .ok (.value (.tuple #[])) W := fun W => (run_callFunc_extern Tryz.func131 (by kernel_rfl) (by kernel_rfl) (by kernel_rfl) (e := (Extern.find Tryz.f131).get (by kernel_rfl)) (by kernel_rfl) _ W).trans (by kernel_rfl)

theorem Fx138 : ∀ args W,(callFunc 138 args).run Tryz.prog W = (((Extern.ReflectliteSwapper.swap false) args).run Tryz.prog W).andThen fun v w' => .ok (.value v) w' := fun args W => run_callFunc_extern Tryz.func138 (by kernel_rfl) (by kernel_rfl) (by kernel_rfl) (e := (Extern.ReflectliteSwapper.swap false)) (by kernel_rfl) args W

theorem Sn1 : Tryz.prog.funcs.findIdx? (·.name == "internal/reflectlite" ++ ".Swapper$" ++ toString 1) = some 130 := by kernel_rfl

theorem Sn2 : Tryz.prog.funcs.findIdx? (·.name == "internal/reflectlite" ++ ".Swapper$" ++ toString 2) = some 131 := by kernel_rfl

theorem Sn9 : Tryz.prog.funcs.findIdx? (·.name == "internal/reflectlite" ++ ".Swapper$" ++ toString 9) = some 138 := by kernel_rfl

theorem Bd97 : zK Tryz.prog 97 := zP Tryz.func97 (by kernel_rfl) rfl

theorem Bd96 : zK Tryz.prog 96 := zP Tryz.func96 (by kernel_rfl) rfl

def xV (M : Nat → Prop) (w0 : World) (qa0 : OA) (qn0 qc0 : Nat) (qf0 : List Nat) (r : tM) (a : Act) (w : World) : Prop :=
  ∃ σ rfi0,a = fr 8 (ovl σ []) ∧ Chg (qf0 ++ []) w0 w ∧ (RT.os 48 (RT.os 3 ri)).val M w (sv qa0 qn0 qc0) r rfi0 ∧ Own (Nw w0 (qf0 ++ [])) (fun _ => True) w (rfi0 ++ [])
def Zh (rows : List (List Int)) : Option ((List (List Int))) :=
  (Yg (fun x_ y_ => (ZL x_ y_).bind fun r_ => some (decide (r_ < 0))) rows (rows.length)).bind fun r5 =>
  some r5
theorem xU {pf0 : List Nat} (rows : tM) (h0 : (RT.os 48 (RT.os 3 ri)).val M w (sv pa0 pn0 pc0) rows pf0) (hI : Own (Nw w (pf0 ++ [])) M w (pf0 ++ [])) (hM : Hm w M) {r : tM} (hs : Zh rows = some r) :
    Gives Tryz.prog 58 [(sv pa0 pn0 pc0),(.func (.func 59) #[] #[])] w (fun v w' => ∃ rfi0,v = (.tuple #[]) ∧ Chg (pf0 ++ []) w w' ∧ (RT.os 48 (RT.os 3 ri)).val M w' (sv pa0 pn0 pc0) r rfi0 ∧ Own (Nw w (pf0 ++ [])) (fun _ => True) w' (rfi0 ++ [])) := by
 refine zx Tryz.func58 rfl Tryz.ntmps58 (nl rfl) ?_;have hO := hI;have hC := Chg.refl (pf0 ++ []) w;unfold Zh at hs;refine wp_mono (Q := WM (xV M w pa0 pn0 pc0 pf0 r)) ?_ (fun e a c5 h => ?_);rotate_left
 ·cases e
  case ret =>
   obtain ⟨σ,rfi0,rfl,hrest⟩ := h;exact uA Tryz.results58  ⟨rfi0,rfl,hrest⟩
  case normal =>
   obtain ⟨σ,rfi0,rfl,hrest⟩ := h;exact ur Tryz.results58  ⟨rfi0,rfl,hrest⟩
  all_goals exact (h : False).elim
 refine c_sr ?_;obtain ⟨b0,a1,b4,b1,a6,a0⟩ := zg w [(sv pa0 pn0 pc0)] 56;refine za (w' := b0) (pq a1 0) (Zx rfl (by rw [b4,b1]; kernel_rfl)) ?_;obtain ⟨h0,hC⟩ := xt2 a6 h0 hC;have hO := hO.new1 a6 b1 a0.lt;obtain ⟨a7,a2,b5,b2,a4,a3⟩ := zg b0 [(.func (.func 59) #[] #[])] 101;refine za (w' := a7) (pq a2 0) (Zx rfl (by rw [b5,b2]; kernel_rfl)) ?_;obtain ⟨h0,a0,hC⟩ := xt3 a4 h0 a0 hC;have hO := hO.new1 a4 b2 a3.lt;refine zb (zh (za _ (ld rfl Ag56 Sz56 a0 rfl) (za (.iface 56 (sv pa0 pn0 pc0)) (y_iface Tryz.underlying56 rfl) (za (.func (.func 97) #[] #[(pq a2 0),(pq a1 0)]) (zda rfl rfl) ?_))));have hO := hO.fr2;obtain ⟨c6,b3,b6,a8,b7⟩ := Ei48;have b8 := os_n h0;obtain ⟨c7,b9,c0⟩ := sort_env (P := Tryz.prog) (ke := 23) (M := M) (gO := a2) (gR := a1) (tO := 101) (tR := 56) (fv := (.func (.func 59) #[] #[])) (ls := (fun x_ y_ => (ZL x_ y_).bind fun r_ => some (decide (r_ < 0)))) (g := 97) (lb := #[(pq a2 0),(pq a1 0)]) rfl b3 b6 Ag48 a8 b7 rfl Sn1 Sn2 Sn9 Fs2 Fx138 Bd97 hO.inM (fun hg => hO.apart _ hg mS) (fun hg => hO.apart _ hg (zd mS)) (fun h hm ho hr hf hl => xG (M := Less M _) _ _ _ ho (((Frz.os (Frz.os Frz.int))).val h Less.sub Less.not) hr (less_fut hf h.fpl) (show ZW _ _ _ = some _ from hl)) h0 (n0 := (a7).heap.size) hO.lt a3.lt a0.lt hO.fut;have c1 : zcu (RT.os 3 ri) 48 M pa0 pn0 pc0 pf0 a2 a1 101 56 (.func (.func 59) #[] #[]) a7 rows := ⟨⟨_,h0,List.Perm.refl _⟩,a3,a0,hO.fut⟩;have c2 := Own.lend (F := (pf0 ++ [])) (R := [a2] ++ ([a1] ++ [])) (Own.perm hO (by simp));obtain ⟨r5,c3,hs⟩ := bq hs;refine zC Bd96 rfl (vS (M := M) (fun x_ y_ => (ZL x_ y_).bind fun r_ => some (decide (r_ < 0))) rows pn0 (Nat.le_refl _) b3 b9 c0 c1 c2 hO.fut (by rw [b8]; exact c3)) ?_;rintro _ c8 ⟨rfl,a5,⟨⟨c4,a9,a8⟩,_,_,_⟩⟩;have a0 := a0.ap a5 hO ZU (zd mS);have a3 := a3.ap a5 hO ZU mS;have hC := hC.st a5 hO ZU;have hO := hO.grow a5 (fun q hq => .inl (a8.mem_iff.1 hq)) (zu a9) a9.fpl;refine zb ?_;cases hs;have hO := hO.fr1.drop.fr1.drop;exact ⟨_,c4,zF 8 trivial,hC,a9,hO.top⟩

theorem Bd58 : zK Tryz.prog 58 := zP Tryz.func58 (by kernel_rfl) rfl

theorem Rw42 : RowT Tryz.prog 42 80 2 [(.int .i64 0),(.slice none 0 0)] := ⟨Tryz.underlying42,⟨_,_,rfl,rfl,rfl,rfl,by decide⟩,rfl,by decide⟩

def yd (M : Nat → Prop) (w0 : World) (r : (List (Int × tM)) × Bool) (a : Act) (w : World) : Prop :=
  ∃ σ ra0 rn0 rc0 rf0,a = fr 120 (ovl σ [(4,(sv ra0 rn0 rc0)),(5,(.bool r.2))]) ∧ Chg [] w0 w ∧ (RT.os 80 (RT.pr ri (RT.os 48 (RT.os 3 ri)))).val M w (sv ra0 rn0 rc0) r.1 rf0 ∧ Option.isNone ra0 = List.isEmpty r.1 ∧ Own (Nw w0 []) (fun _ => True) w (rf0 ++ [])
def zZ (n : Int) (ops : List (Int × (List Int))) : Option ((List (Int × (List (List Int)))) × Bool) :=
  (mks (w64 (n * n)) (false : Bool)).bind fun y3 =>
  (Ze n ops y3).bind fun r6 =>
  (ZO r6).bind fun r9 =>
  (idx ([r9]) 0).bind fun x15 =>
  (ym x15).bind fun r20 =>
  (iter (S := (List (List Int)) × Int × (List (ByteArray × Bool))) (R := (List (Int × (List (List Int)))) × Bool) (fun s724 =>
  (bif (decide (s724.2.1 < (s724.1.length : Int))) then (forC (S := (List (List Int)) × (List (ByteArray × Bool))) (R := (List (Int × (List (List Int)))) × Bool) (fun k846 s844 =>
  (idx s844.1 s724.2.1).bind fun x856 =>
  (yY x856 k846).bind fun r861 =>
  (bif (!r861) then some (.nx (s844.1,s844.2)) else (idx s844.1 s724.2.1).bind fun x863 =>
  (Yz x863 (w64 (n * n))).bind fun r868 =>
  (idx r868 k846).bind fun x870 =>
  (Ze n ops (List.set r868 (Int.toNat k846) true)).bind fun r874 =>
  (ZO r874).bind fun r877 =>
  (ym r877).bind fun r880 =>
  (bif (!((mget s844.2 r880).getD false)) then (app s844.1 ([r877])).bind fun y904 =>
  some (y904,mput s844.2 r880 true) else some (s844.1,s844.2)).bind fun s893 =>
  (bif (decide (200 < (s893.1.length : Int))) then some (.rt ([],false)) else some (.nx (s893.1,s893.2))))) 0 (w64 (n * n)) (s724.1,s724.2.2)).bind fun o848 => after o848 (fun r_ => some (.rt r_)) (fun s844 =>
  some (.nx (s844.1,w64 (s724.2.1 + 1),s844.2))) else some (.br (s724.1,s724.2.1,s724.2.2)))) FU ([r9],0,mput ([]) r20 true)).bind fun o728 => after o728 (fun r_ => some r_) (fun s724 =>
  (Zh s724.1).bind fun r908 =>
  (forR (S := (List (Int × (List (List Int))))) (R := (List (Int × (List (List Int)))) × Bool) (fun _ x976 s973 =>
  (forR (S := (List (List Int))) (R := (List (Int × (List (List Int)))) × Bool) (fun _ x1019 s1016 =>
  (nz n).bind fun u1028 =>
  (nz n).bind fun u1029 =>
  (app s1016 ([[w64 (Int.tdiv x1019 n),Int.tmod x1019 n]])).bind fun y1035 =>
  some (.nx y1035)) 0 x976 ([])).bind fun o1020 => after o1020 (fun r_ => some (.rt r_)) (fun s1016 =>
  (app s973 ([(2,s1016)])).bind fun y1041 =>
  some (.nx y1041))) 0 r908 ([])).bind fun o977 => after o977 (fun r_ => some r_) (fun s973 =>
  (nne s973).bind fun u1043 =>
  some (s973,true)))
theorem xZ (n : Int) (ops : List (Int × (List Int))) (h0 : rp.val M w (sv pa0 pn0 pc0) ops []) (hM : Hm w M) {r : (List (Int × tM)) × Bool} (hs : zZ n ops = some r) :
    Gives Tryz.prog 28 [(iv n),(sv pa0 pn0 pc0)] w (fun v w' => ∃ ra0 rn0 rc0 rf0,v = (.tuple #[(sv ra0 rn0 rc0),(.bool r.2)]) ∧ Chg [] w w' ∧ (RT.os 80 (RT.pr ri (RT.os 48 (RT.os 3 ri)))).val M w' (sv ra0 rn0 rc0) r.1 rf0 ∧ Option.isNone ra0 = List.isEmpty r.1 ∧ Own (Nw w []) (fun _ => True) w' (rf0 ++ [])) := by
 refine zx Tryz.func28 rfl Tryz.ntmps28 (nl rfl) ?_;obtain ⟨hO,hC⟩ := st0 hM;unfold zZ at hs;refine wp_k (K := (yd M w r)) (by rintro _ _ ⟨σ,ra0,rn0,rc0,rf0,rfl,hrest⟩; exact WN Tryz.results28 (zH rfl) (zH rfl) ⟨ra0,rn0,rc0,rf0,rfl,hrest⟩) (c_sr (ax rfl (ab rfl (zb (c_sr (mi rfl (ms rfl (mi rfl (mi rfl (za _ (ymu rfl rfl) ?_))))))))));obtain ⟨y3,t7,hs⟩ := bq hs;obtain ⟨t8,t9,u0,u1,p8,u2,m4,u3,m5⟩ := Wb (M := M) (w := w) (r := RT.bool) Rw95 t7 (fun _ _ => ⟨rfl,rfl⟩);refine za (w' := u1) (sv t8 t9 u0) (Xf rfl rfl u2) ?_;obtain ⟨h0,hC⟩ := xt2 m4 h0 hC;have hO := hO.new m4 u3 (zu m5) m5.fpl;have u4 := hO;have p9 := Own.lend (F := (p8 ++ [])) (R := []) (Own.perm (u4) (by simp));obtain ⟨r6,u5,hs⟩ := bq hs;refine zC Bd54 rfl (xI (M := M) n ops y3 h0 m5 p9 p9.fut u5) ?_;rintro _ F6 ⟨F7,F8,F9,j9,rfl,m6,b9,u6⟩;have hO := hO.perm (R := (p8 ++ []) ++ []) (by simp);have h0 := h0.mt m6 hO zf;have hC := hC.st m6 hO zf;have hO := Own.join hO m6 u6;have hO := hO.perm (R := j9 ++ []) (by simp);obtain ⟨r9,u7,hs⟩ := bq hs;refine zC Bd53 rfl (wL (M := (Less M j9)) r6 (((Frz.os Frz.bool)).val b9 Less.sub Less.not) hO.less.fut u7) ?_;rintro _ u9 ⟨q0,q1,q2,f0,rfl,k0,h5,v0⟩;obtain ⟨h0,b9,hC⟩ := xt3 k0 h0 b9 hC;have hO := Own.join0 hO k0 v0;have hO := hO.perm (R := f0 ++ (j9 ++ [])) (by simp);have h5 := h5.free (M' := M) (Free.os Free.int);obtain ⟨m7,d3,v1,q3,h6,q4⟩ := zg u9 [(sv q0 q1 q2)] 48;refine za (w' := m7) (sv (some ⟨d3,0,none⟩) 1 1) (zy rfl (by rw [v1,q3]; kernel_rfl)) ?_;obtain ⟨h0,b9,h5,hC⟩ := xt4 h6 h0 b9 h5 hC;have hO := (hO.new1 h6 q3 q4.lt).perm (R := (d3 :: ((f0) ++ [])) ++ (j9 ++ [])) (by simp);have v2 := hO.nd;have c2 := zQ (r := (RT.os 3 ri)) (M := M) (css := [[(sv q0 q1 q2)]]) (fps := [(f0 : List Nat)]) (xs := ([r9] : tM)) q4 ⟨(Zc h5),trivial⟩ (nl rfl) v2;have c2 : (RT.os 48 (RT.os 3 ri)).val M m7 (sv (some ⟨d3,0,none⟩) 1 1) [r9] (d3 :: ((f0) ++ [])) := c2;refine ax rfl (zb (c_sr ?_));obtain ⟨v3,a7,v4,q5,h7,k1⟩ := zbz (enc := Value.bool) (M := M) m7;refine za (w' := v3) (.map (some a7)) (by rw [v4,q5]; exact zdl) ?_;obtain ⟨h0,b9,c2,hC⟩ := xt4 h7 h0 b9 c2 hC;have hO := hO.new (X' := [a7]) h7 (fun q hq => by rw [List.mem_singleton.1 hq,q5]; exact Nat.le_refl _) nd1 k1.fpl;refine ms rfl ?_;obtain ⟨x15,v5,hs⟩ := bq hs;obtain ⟨v6,G0,G1,G2,v7,m8,v8⟩ := ZI Sl56 Sz48 c2 v5;have m9 := vg (Frz.os Frz.int) m8 v8;refine za _ (ip v7 rfl rfl) ?_;obtain ⟨G3,v9,hrow17,f1⟩ := ve Ag48 Sz48 rfl rfl m9;obtain ⟨w1,w2,w3,rfl⟩ := Zw f1;refine za (sv w1 w2 w3) (zo rfl (v9 _ (Chg.refl _ _))) ?_;have hO := hO.fr1;obtain ⟨r20,w4,hs⟩ := bq hs;refine zC Bd55 rfl (Wf (M := (Less M (d3 :: ((f0) ++ [])))) x15 f1 hO.less.fut w4) ?_;rintro _ G4 ⟨rfl,c3⟩;obtain ⟨h0,b9,c2,k1,f1,hrow17,m8,m9⟩ := xt8 c3 h0 b9 c2 k1 f1 hrow17 m8 m9;obtain ⟨hC,hO⟩ := xt2 c3 hC hO;have hO := hO.fr1;obtain ⟨w5,w6,f2,w7⟩ := Wq (P := Tryz.prog) (t := 74) (key := r20) (x := true) Tryz.underlying74 Tryz.underlying9 k1;refine zS (w' := w5) (vO rfl rfl rfl w6) ?_;have h0 := h0.mt f2 hO zf;have b9 := b9.ma f2 hO zf (fun _ e => (zd (zn (e))));have c2 := c2.ma f2 hO zf (fun _ e => (zn (e)));have f1 := f1.mut f2 (fun g hg => ⟨hO.inM g ((fun _ h => h) g hg),fun e => hO.apart g ((fun _ h => h) g hg) (zn (e))⟩) (fun _ _ h => nomatch h);have hC := hC.st f2 hO zf;have hO := hO.ext f2;refine za (.map (some a7)) (zD rfl) (za (.map (some a7)) (zG rfl) (zb (ze (c_sr (ai rfl (zb ?_))))));have hO := hO.fr2.drop;obtain ⟨o728,w8,hs⟩ := bq hs;refine wp_block (ZG (id := 0) (I := fun s724 a b1 => ∃ σ f3 f4 f5 h8 h9,a = fr 120 (ovl σ [(0,(iv n)),(1,(sv pa0 pn0 pc0)),(6,(sv f3 f4 f5)),(7,(.map (some a7))),(8,(iv s724.2.1))]) ∧ Chg [] w b1 ∧ Own (Nw w []) M b1 (h8 ++ (h9 ++ [])) ∧ rp.val M b1 (sv pa0 pn0 pc0) ops [] ∧ (RT.mo Value.bool).val M b1 (.map (some a7)) s724.2.2 h9 ∧ (RT.os 48 (RT.os 3 ri)).val M b1 (sv f3 f4 f5) s724.1 h8) (J := fun s724 a b1 => ∃ σ b5 b6 b7 i0 f6,a = fr 120 (ovl σ [(0,(iv n)),(6,(sv b5 b6 b7))]) ∧ Chg [] w b1 ∧ Own (Nw w []) M b1 (i0 ++ (f6 ++ [])) ∧ rp.val M b1 (sv pa0 pn0 pc0) ops [] ∧ (RT.mo Value.bool).val M b1 (.map (some a7)) s724.2.2 f6 ∧ (RT.os 48 (RT.os 3 ri)).val M b1 (sv b5 b6 b7) s724.1 i0) (K := (yd M w)) ?_ FU ([r9],0,mput [] r20 true) o728 _ _ ?_ w8 ?_)
 ·rintro s724 o728 a b1 ⟨σ,f3,f4,f5,h8,h9,rfl,hC,hO,h0,q6,n0⟩ hs;refine ze (c_sr (mi rfl (ms rfl (za _ (zt Sl56 (yD n0) rfl) (za _ (zA rfl rfl) (zb ?_))))));rcases zm hs with ⟨n1,hs⟩ | ⟨n1,hs⟩
  ·refine zl (cb n1) (wp_skip (ze (wp_block (c_sr (ai rfl (zb ?_))))));obtain ⟨o848,w9,hs⟩ := bq hs;refine wp_block (zU (id := 2) (w64 (n * n)) (I := fun k846 s844 a a9 => ∃ σ c4 c5 c6 a8 b0,a = fr 120 (ovl σ [(0,(iv n)),(1,(sv pa0 pn0 pc0)),(6,(sv c4 c5 c6)),(7,(.map (some a7))),(8,(iv s724.2.1)),(9,(iv k846))]) ∧ Chg [] w a9 ∧ Own (Nw w []) M a9 (a8 ++ (b0 ++ [])) ∧ rp.val M a9 (sv pa0 pn0 pc0) ops [] ∧ (RT.mo Value.bool).val M a9 (.map (some a7)) s844.2 b0 ∧ (RT.os 48 (RT.os 3 ri)).val M a9 (sv c4 c5 c6) s844.1 a8) (J := fun s844 a a9 => ∃ σ k2 k3 k4 k5 k6,a = fr 120 (ovl σ [(0,(iv n)),(1,(sv pa0 pn0 pc0)),(6,(sv k2 k3 k4)),(7,(.map (some a7))),(8,(iv s724.2.1))]) ∧ Chg [] w a9 ∧ Own (Nw w []) M a9 (k5 ++ (k6 ++ [])) ∧ rp.val M a9 (sv pa0 pn0 pc0) ops [] ∧ (RT.mo Value.bool).val M a9 (.map (some a7)) s844.2 k6 ∧ (RT.os 48 (RT.os 3 ri)).val M a9 (sv k2 k3 k4) s844.1 k5) (K := (yd M w)) ?_ ?_ 0 (s724.1,s724.2.2) o848 _ _ ?_ w9 ?_)
   ·rintro k846 s844 a a9 ⟨σ,c4,c5,c6,a8,b0,rfl,hC,hO,h0,a6,a3⟩ hlt;refine ze (c_sr (mi rfl (mi rfl (mi rfl (za _ (ymu rfl rfl) (za _ (zA rfl rfl) (zb (zk (df hlt) (wp_exit ?_)))))))));have hO := hO.fr1.fr1;exact ⟨rfl,_,c4,c5,c6,a8,b0,fr_m 120 rfl,hC,hO,h0,a6,a3⟩
   ·rintro k846 s844 o848 a a9 ⟨σ,c4,c5,c6,a8,b0,rfl,hC,hO,h0,a6,a3⟩ hlt hw hs;refine ze (c_sr (mi rfl (mi rfl (mi rfl (za _ (ymu rfl rfl) (za _ (zA rfl rfl) (zb (zl (dt hlt) (wp_skip (ze (wp_block (ze (c_sr (ms rfl (mi rfl ?_)))))))))))))));obtain ⟨x856,x0,hs⟩ := bq hs;obtain ⟨x1,G5,G6,G7,x2,n2,x3⟩ := ZI Sl56 Sz48 a3 x0;have n3 := vg (Frz.os Frz.int) n2 x3;refine za _ (ip x2 rfl rfl) ?_;obtain ⟨G8,x4,hrow858,k7⟩ := ve Ag48 Sz48 rfl rfl n3;obtain ⟨x5,x6,x7,rfl⟩ := Zw k7;refine za (sv x5 x6 x7) (zo rfl (x4 _ (Chg.refl _ _))) (mi rfl ?_);obtain ⟨r861,x8,hs⟩ := bq hs;refine zC Bd56 rfl (zae (M := (Less M a8)) x856 k846 k7 hO.less.fut x8) ?_;rintro _ G9 ⟨rfl,d4⟩;obtain ⟨h0,a6,a3,k7,hrow858,n2,n3,hC⟩ := xt8 d4 h0 a6 a3 k7 hrow858 n2 n3 hC;have hO := hO.ext d4;refine za _ (yc rfl) (zb ?_);rcases zm hs with ⟨n4,hs⟩ | ⟨n4,hs⟩
    ·refine zl (cb n4) (wp_exit (zh (mi rfl (za _ (yad rfl rfl) (ai rfl (zb ?_))))));cases hs;have hO := hO.fr1.fr1;exact ⟨_,c4,c5,c6,a8,b0,zF 120 ⟨rfl,rfl,rfl,rfl,rfl,congrArg (Value.int .i64) hw,trivial⟩,hC,hO,h0,a6,a3⟩
    refine zk (cb n4) (wp_skip (c_sr (ms rfl (mi rfl ?_))));obtain ⟨x863,x9,hs⟩ := bq hs;obtain ⟨y0,H0,H1,H2,y1,n5,y2⟩ := ZI Sl56 Sz48 a3 x9;have n6 := vg (Frz.os Frz.int) n5 y2;refine za _ (ip y1 rfl rfl) ?_;obtain ⟨H3,y4,hrow865,k8⟩ := ve Ag48 Sz48 rfl rfl n6;obtain ⟨y5,y6,y7,rfl⟩ := Zw k8;refine za (sv y5 y6 y7) (zo rfl (y4 _ (Chg.refl _ _))) (mi rfl (mi rfl (za _ (ymu rfl rfl) ?_)));obtain ⟨r868,y8,hs⟩ := bq hs;refine zC Bd57 rfl (zbv (M := (Less M a8)) x863 (w64 (n * n)) k8 hO.less.fut y8) ?_;rintro _ H4 ⟨n7,n8,n9,q7,rfl,d5,f7,y9⟩;obtain ⟨h0,a6,a3,k8,hrow865,n5,n6,hC⟩ := xt8 d5 h0 a6 a3 k8 hrow865 n5 n6 hC;have hO := Own.join0 hO d5 y9;have hO := hO.perm (R := q7 ++ (a8 ++ (b0 ++ []))) (by simp);have f7 := f7.free (M' := M) (Free.os Free.bool);refine ax rfl (zb (c_sr (ms rfl (mi rfl ?_))));obtain ⟨x870,z0,hs⟩ := bq hs;obtain ⟨q8,H5,q9,z1,z2,H6,H7⟩ := ZI Sl95 Sz4 f7 z0;refine za _ (ip z2 rfl rfl) ?_;obtain ⟨z3,r0,z4,i1,z5,o0⟩ := YI (P := Tryz.prog) (c' := [(.bool true)]) q9 f7 z1 (fun g hg => hO.inM g (zw f7 g (by simpa using hg))) ⟨rfl,rfl⟩ List.nodup_nil (fun _ h => nomatch h) (fun _ h => .inl h);have k9 : ∀ q ∈ [q8],q ∈ q7 := fun q hq => zw f7 q (by rw [q9]; exact hq)
    refine zS (w' := z3) (zL rfl rfl (z4 _ _ rfl Sz4)) ?_;have h0 := h0.mt i1 hO k9;have a6 := a6.ma i1 hO k9 (fun _ e => (zd (zn (e))));have a3 := a3.ma i1 hO k9 (fun _ e => (zn (e)));have hC := hC.st i1 hO k9;have hO := hO.grow i1 (fun q hq => .inl ((z5 q hq).resolve_right (fun h => nomatch h))) (zu o0) o0.fpl;refine zb (c_sr (mi rfl (ms rfl (ms rfl ?_))));have z6 := hO;have r1 := Own.lend (F := (r0 ++ [])) (R := a8 ++ (b0 ++ [])) (Own.perm (z6) (by simp));obtain ⟨r874,z7,hs⟩ := bq hs;refine zC Bd54 rfl (xI (M := M) n ops (List.set r868 (Int.toNat k846) true) h0 o0 r1 r1.fut z7) ?_;rintro _ H8 ⟨H9,I0,I1,l0,rfl,i2,c0,z8⟩;have hO := hO.perm (R := (r0 ++ []) ++ (a8 ++ (b0 ++ []))) (by simp);have h0 := h0.mt i2 hO zf;have a6 := a6.ma i2 hO zf (fun _ e => (zd (zn (e))));have a3 := a3.ma i2 hO zf (fun _ e => (zn (e)));have hC := hC.st i2 hO zf;have hO := Own.join hO i2 z8;have hO := hO.perm (R := l0 ++ (a8 ++ (b0 ++ []))) (by simp);obtain ⟨r877,z9,hs⟩ := bq hs;refine zC Bd53 rfl (wL (M := (Less M l0)) r874 (((Frz.os Frz.bool)).val c0 Less.sub Less.not) hO.less.fut z9) ?_;rintro _ I2 ⟨i3,i4,i5,i6,rfl,f8,c7,A0⟩;obtain ⟨h0,a6,a3,c0,hC⟩ := xt5 f8 h0 a6 a3 c0 hC;have hO := Own.join0 hO f8 A0;have hO := hO.perm (R := i6 ++ (l0 ++ (a8 ++ (b0 ++ [])))) (by simp);have c7 := c7.free (M' := M) (Free.os Free.int);refine ax rfl (zb (ze (c_sr (ms rfl ?_))));obtain ⟨r880,A1,hs⟩ := bq hs;refine zC Bd55 rfl (Wf (M := (Less M i6)) r877 (((Frz.os Frz.int)).val c7 Less.sub Less.not) hO.less.fut A1) ?_;rintro _ I3 ⟨rfl,e4⟩;obtain ⟨h0,a6,a3,c0,c7,hC,hO⟩ := xt7 e4 h0 a6 a3 c0 c7 hC hO;refine za (.string r880) (zG rfl) (zb (c_sr (za (.map (some a7)) (zD rfl) (za (.string r880) (zD rfl) (za (.bool ((mget s844.2 r880).getD false)) (y_look (enc := Value.bool) Tryz.underlying74 Tryz.underlying9 Zv4 (mo_at a6) rfl rfl) (za _ (yc rfl) (zb ?_)))))));obtain ⟨s893,A2,hs⟩ := bq hs;refine yI (I := fun a f9 => ∃ σ i7 i9 j0 l1 l2,a = fr 120 (ovl σ [(0,(iv n)),(1,(sv pa0 pn0 pc0)),(6,(sv i7 i9 j0)),(7,(.map (some a7))),(8,(iv s724.2.1)),(9,(iv k846))]) ∧ Chg [] w f9 ∧ Own (Nw w []) M f9 (l1 ++ (l2 ++ [])) ∧ rp.val M f9 (sv pa0 pn0 pc0) ops [] ∧ (RT.mo Value.bool).val M f9 (.map (some a7)) s893.2 l2 ∧ (RT.os 48 (RT.os 3 ri)).val M f9 (sv i7 i9 j0) s893.1 l1) ?_ ?_
    ·replace hs := A2;rcases zm hs with ⟨o1,hs⟩ | ⟨o1,hs⟩
     ·refine zl (cb o1) (c_sr (za (.map (some a7)) (zD rfl) (za (.string r880) (zD rfl) ?_)));have hO := hO.fr3;obtain ⟨r2,A3,g0,j1⟩ := Wq (P := Tryz.prog) (t := 74) (key := r880) (x := true) Tryz.underlying74 Tryz.underlying9 a6;refine zS (w' := r2) (ys_put rfl rfl rfl A3) ?_;have h0 := h0.mt g0 hO zf;have a3 := a3.ma g0 hO zf (fun _ e => (zd (zd (zn (e)))));have c0 := c0.ma g0 hO zf (fun _ e => (zd (zn (e))));have c7 := c7.ma g0 hO zf (fun _ e => (zn (e)));have hC := hC.st g0 hO zf;have hO := hO.ext g0;refine zb (zh (ms rfl (ms rfl ?_)));obtain ⟨r3,l3,A4,r4,e5,r5⟩ := zg r2 [(sv i3 i4 i5)] 48;refine za (w' := r3) (sv (some ⟨l3,0,none⟩) 1 1) (zy rfl (by rw [A4,r4]; kernel_rfl)) ?_;obtain ⟨h0,j1,a3,c0,c7,hC⟩ := xt6 e5 h0 j1 a3 c0 c7 hC;have hO := (hO.fr1.new1 e5 r4 r5.lt).perm (R := (l3 :: ((i6) ++ [])) ++ (b0 ++ (l0 ++ (a8 ++ [])))) (by simp);have A5 := hO.nd;have o2 := zQ (r := (RT.os 3 ri)) (M := M) (css := [[(sv i3 i4 i5)]]) (fps := [(i6 : List Nat)]) (xs := ([r877] : tM)) r5 ⟨(Zc c7),trivial⟩ (nl rfl) A5;have o2 : (RT.os 48 (RT.os 3 ri)).val M r3 (sv (some ⟨l3,0,none⟩) 1 1) [r877] (l3 :: ((i6) ++ [])) := o2;obtain ⟨y904,A6,hs⟩ := bq hs;have hO := hO.fr3;obtain ⟨o3,o4,o5,A7,A8,A9,j2,B0,o6⟩ := Zg Rw56 A6 a3 o2 hO.inM (fun g hg hq => hO.apart g hq (zn hg));have l4 := zw a3;refine za (w' := A7) (sv o3 o4 o5) (zJ rfl rfl (A9 _)) ?_;have hO := hO.fr1.fr1;have h0 := h0.mt j2 hO l4;have j1 := j1.ma j2 hO l4 (fun _ e => (zd (zn (e))));have c0 := c0.ma j2 hO l4 (fun _ e => (zd (zd (zn (e)))));have hC := hC.st j2 hO l4;have hO := hO.eat j2 B0 (zu o6) o6.fpl;refine ax rfl (zb ?_);cases hs;have hO := hO.fr2.drop.fr1.fr1;exact ⟨_,o3,o4,o5,A8,b0,fr_m 120 rfl,hC,hO,h0,j1,o6⟩
     refine zk (cb o1) (wp_skip ?_);cases hs;have hO := hO.drop.drop.fr1.fr1;exact ⟨_,c4,c5,c6,a8,b0,fr_m 120 rfl,hC,hO,h0,a6,a3⟩
    rintro d8 f9 ⟨σ,i7,i9,j0,l1,l2,rfl,hC,hO,h0,B1,r7⟩;refine c_sr (ms rfl (za _ (zt Sl56 (yD r7) rfl) (za _ (xg rfl rfl) (zb ?_))));rcases zm hs with ⟨o7,hs⟩ | ⟨o7,hs⟩
    ·refine zl (cb o7) (c_sr (ax rfl (ab rfl (zb (wp_ret ?_)))));cases hs;have hO := hO.drop.drop.nil;exact ⟨_,none,0,0,[],fr_m 120 rfl,hC,xW,rfl,hO.top⟩
    refine zk (cb o7) (wp_skip (zh (mi rfl (za _ (yad rfl rfl) (ai rfl (zb ?_))))));cases hs;have hO := hO.fr1.fr1;exact ⟨_,i7,i9,j0,l1,l2,zF 120 ⟨rfl,rfl,rfl,rfl,rfl,congrArg (Value.int .i64) hw,trivial⟩,hC,hO,h0,B1,r7⟩
   ·have hO := hO.fr1.fr1;exact ⟨_,f3,f4,f5,h8,h9,fr_m 120 rfl,hC,hO,h0,q6,n0⟩
   cases o848 with
   | nx _ => trivial
   | rt r_ =>
    have hs := zr hs;intro d8 j8 hK;cases hs;exact hK
   | br s844 =>
    have hs := zq hs;rintro d8 a9 ⟨σ,k2,k3,k4,k5,k6,rfl,hC,hO,h0,B2,B3⟩;refine zh (mi rfl (za _ (yad rfl rfl) (ai rfl (zb ?_))));cases hs;have hO := hO.fr1.fr1;exact ⟨_,k2,k3,k4,k5,k6,fr_m 120 rfl,hC,hO,h0,B2,B3⟩
  refine zk (cb n1) (wp_exit ?_);cases hs;have hO := hO.fr1.fr1;exact ⟨rfl,_,f3,f4,f5,h8,h9,fr_m 120 rfl,hC,hO,h0,q6,n0⟩
 ·have hO := hO.fr1;exact ⟨_,(some ⟨d3,0,none⟩),1,1,(d3 :: ((f0) ++ [])),[a7],fr_m 120 rfl,hC,hO,h0,w7,c2⟩
 cases o728 with
 | nx _ => trivial
 | rt r_ =>
  have hs := zr hs;intro d8 j8 hK;cases hs;exact hK
 | br s724 =>
  have hs := zq hs;rintro d8 b1 ⟨σ,b5,b6,b7,i0,f6,rfl,hC,hO,h0,l5,B4⟩;refine c_sr (ms rfl ?_);have B5 := hO;have r8 := Own.lend (F := (i0 ++ [])) (R := f6 ++ []) (Own.perm (B5) (by simp));obtain ⟨r908,B6,hs⟩ := bq hs;refine zC Bd58 rfl (xU (M := M) s724.1 B4 r8 r8.fut B6) ?_;rintro _ B7 ⟨b2,rfl,l6,a0,B8⟩;have hO := hO.perm (R := (i0 ++ []) ++ (f6 ++ [])) (by simp);have h0 := h0.mt l6 hO zf;have l5 := l5.ma l6 hO zf (fun _ e => (zn (e)));have hC := hC.st l6 hO zf;have hO := Own.join hO l6 B8;have hO := hO.perm (R := b2 ++ (f6 ++ [])) (by simp);refine zb (c_sr ?_);obtain ⟨s0,g1,B9,s1,l7,s2⟩ := zg B7 [] 80;refine za (w' := s0) (sv (some ⟨g1,0,none⟩) 0 0) (zy rfl (by rw [B9,s1]; kernel_rfl)) ?_;obtain ⟨l5,a0,hC⟩ := xt3 l7 l5 a0 hC;have hO := hO.new1 l7 s1 s2.lt;have o8 := os0 (r := (RT.pr ri (RT.os 48 (RT.os 3 ri)))) (M := M) s2;refine ax rfl (zb (ze (c_sr (ms rfl (za _ (zt Sl56 (yD a0) rfl) (mi rfl (zb ?_)))))));have hO := hO.fr2.drop;obtain ⟨o977,C0,hs⟩ := bq hs;refine wp_block (Yl (id := 4) (I := fun i_ xs_ s973 a b3 => ∃ b8 : Nat,i_ = (b8 : Int) ∧ List.drop b8 r908 = xs_ ∧ (∃ σ c8 c9 d0 c1,a = fr 120 (ovl σ [(0,(iv n)),(13,(sv c8 c9 d0)),(88,(sv b5 b6 b7)),(89,(iv (r908.length : Int))),(90,(iv (b8 : Int)))]) ∧ Chg [] w b3 ∧ Own (Nw w []) M b3 (c1 ++ (b2 ++ [])) ∧ (RT.os 48 (RT.os 3 ri)).val M b3 (sv b5 b6 b7) r908 b2 ∧ (RT.os 80 (RT.pr ri (RT.os 48 (RT.os 3 ri)))).val M b3 (sv c8 c9 d0) s973 c1)) (J := fun s973 a b3 => ∃ σ g2 g3 g4 l8,a = fr 120 (ovl σ [(13,(sv g2 g3 g4))]) ∧ Chg [] w b3 ∧ Own (Nw w []) M b3 (l8 ++ (b2 ++ [])) ∧ (RT.os 48 (RT.os 3 ri)).val M b3 (sv b5 b6 b7) r908 b2 ∧ (RT.os 80 (RT.pr ri (RT.os 48 (RT.os 3 ri)))).val M b3 (sv g2 g3 g4) s973 l8) (K := (yd M w)) ?_ ?_ r908 0 [] o977 _ _ ?_ C0 ?_)
  ·rintro _ s973 a b3 ⟨b8,rfl,hd,σ,c8,c9,d0,c1,rfl,hC,hO,a0,a2⟩;have hlt := ZJ hd;refine c_sr (za _ (zA rfl rfl) (zb (ze (zk (df hlt) (wp_exit ?_)))));have hO := hO.fr1.fr1;exact ⟨rfl,_,c8,c9,d0,c1,fr_m 120 rfl,hC,hO,a0,a2⟩
  ·rintro _ x976 xs_ s973 o977 a b3 ⟨b8,rfl,hd,σ,c8,c9,d0,c1,rfl,hC,hO,a0,a2⟩ hs;have hlt := Zt hd;have C1 := Zk hd;refine c_sr (za _ (zA rfl rfl) (zb (ze (zl (dt hlt) (wp_skip (ze (wp_block (c_sr ?_))))))));obtain ⟨C2,I4,I5,I6,C3,C4,C5⟩ := ZI Sl56 Sz48 a0 C1;have C6 := vg (Frz.os Frz.int) C4 C5;refine za _ (ip C3 rfl rfl) ?_;obtain ⟨I7,C7,hrow984,a1⟩ := ve Ag48 Sz48 rfl rfl C6;obtain ⟨g5,g6,g7,rfl⟩ := Zw a1;refine za (sv g5 g6 g7) (zo rfl (C7 _ (Chg.refl _ _))) (ax rfl (zb (c_sr (za (.agg #[(iv 2),(sv none 0 0)]) (yj rfl (by kernel_rfl)) ?_))));obtain ⟨C8,b4,C9,s3,g8,s4⟩ := zg b3 [(iv 0),(sv none 0 0)] 80;refine za (w' := C8) (pq b4 0) (Zy (by rw [C9,s3]; kernel_rfl)) ?_;obtain ⟨a0,a2,a1,hrow984,hC⟩ := xt5 g8 a0 a2 a1 hrow984 hC;have hO := hO.new1 g8 s3 s4.lt;obtain ⟨s5,D0,j3,a4⟩ := zM (P := Tryz.prog) s4 [] [(iv 0),(sv none 0 0)] [] [(iv 2),(sv none 0 0)] rfl rfl (oc rfl);refine zS (w' := s5) (zL rfl rfl (D0 _ _ rfl Sz80)) ?_;have a0 := a0.ma j3 hO zf (fun _ e => (zd (zn (e))));have a2 := a2.ma j3 hO zf (fun _ e => (zn (e)));have a1 := a1.mut j3 (fun g hg => ⟨hO.inM g ((fun _ h => h) g hg),fun e => hO.apart g ((fun _ h => h) g hg) (zd (zn (e)))⟩) (fun _ _ h => nomatch h);have hC := hC.st j3 hO zf;have hO := hO.ext j3;have a4 : BoxV s5 b4 80 [(iv 2),(sv none 0 0)] := a4;refine zb (ze (c_sr (ms rfl (za _ (zt Sl48 (zB a1) rfl) (mi rfl (zb ?_))))));obtain ⟨o1020,D1,hs⟩ := bq hs;refine wp_block (Yl (id := 6) (I := fun i_ xs_ s1016 a a5 => ∃ d6 : Nat,i_ = (d6 : Int) ∧ List.drop d6 x976 = xs_ ∧ (∃ σ d9 e0 e1 g9,a = fr 120 (ovl σ [(0,(iv n)),(13,(sv c8 c9 d0)),(16,(pq b4 0)),(88,(sv b5 b6 b7)),(89,(iv (r908.length : Int))),(90,(iv (b8 : Int))),(95,(sv g5 g6 g7)),(96,(iv (x976.length : Int))),(97,(iv (d6 : Int)))]) ∧ Chg [] w a5 ∧ Own (Nw w []) M a5 (g9 ++ ([b4] ++ (c1 ++ (b2 ++ [])))) ∧ (RT.os 48 (RT.os 3 ri)).val M a5 (sv b5 b6 b7) r908 b2 ∧ (RT.os 80 (RT.pr ri (RT.os 48 (RT.os 3 ri)))).val M a5 (sv c8 c9 d0) s973 c1 ∧ rl.val (Less M b2) a5 (sv g5 g6 g7) x976 [] ∧ BoxV a5 b4 80 [(iv 2),(sv d9 e0 e1)] ∧ (RT.os 48 (RT.os 3 ri)).val M a5 (sv d9 e0 e1) s1016 g9)) (J := fun s1016 a a5 => ∃ σ e6 e7 e8 h1,a = fr 120 (ovl σ [(0,(iv n)),(13,(sv c8 c9 d0)),(16,(pq b4 0)),(88,(sv b5 b6 b7)),(89,(iv (r908.length : Int))),(90,(iv (b8 : Int)))]) ∧ Chg [] w a5 ∧ Own (Nw w []) M a5 (h1 ++ ([b4] ++ (c1 ++ (b2 ++ [])))) ∧ (RT.os 48 (RT.os 3 ri)).val M a5 (sv b5 b6 b7) r908 b2 ∧ (RT.os 80 (RT.pr ri (RT.os 48 (RT.os 3 ri)))).val M a5 (sv c8 c9 d0) s973 c1 ∧ rl.val (Less M b2) a5 (sv g5 g6 g7) x976 [] ∧ BoxV a5 b4 80 [(iv 2),(sv e6 e7 e8)] ∧ (RT.os 48 (RT.os 3 ri)).val M a5 (sv e6 e7 e8) s1016 h1) (K := (yd M w)) ?_ ?_ x976 0 [] o1020 _ _ ?_ D1 ?_)
   ·rintro _ s1016 a a5 ⟨d6,rfl,hd,σ,d9,e0,e1,g9,rfl,hC,hO,a0,a2,a1,a4,d1⟩;have hlt := ZJ hd;refine c_sr (za _ (zA rfl rfl) (zb (ze (zk (df hlt) (wp_exit ?_)))));have hO := hO.fr3.fr3.fr3.fr3;exact ⟨rfl,_,d9,e0,e1,g9,fr_m 120 rfl,hC,hO,a0,a2,a1,a4,d1⟩
   ·rintro _ x1019 xs_ s1016 o1020 a a5 ⟨d6,rfl,hd,σ,d9,e0,e1,g9,rfl,hC,hO,a0,a2,a1,a4,d1⟩ hs;have hlt := Zt hd;have D2 := Zk hd;refine c_sr (za _ (zA rfl rfl) (zb (ze (zl (dt hlt) (wp_skip (ze (wp_block (c_sr ?_))))))));obtain ⟨D3,D4,D5,D6⟩ := zI Sl48 Sz3 a1 D2;refine za _ (ip D5 rfl rfl) (za (iv x1019) (zo rfl ((zp Ag3 Sz3 D6) _ (Chg.refl _ _))) (ai rfl (zb (Za [10,12] Mx rfl ?_))));have e2 := Chg.drew a5;generalize World.drew a5 = s6 at e2 ⊢;obtain ⟨a0,a2,a1,a4,d1,hC,hO⟩ := xt7 e2 a0 a2 a1 a4 d1 hC hO;have hS := Chg.refl [] s6;refine xq 0 (pq b4 1) rfl (zj rfl WV) hS (xl 1 rfl (ldx rfl Ag56 Sz56 a4 rfl) hS (xmi 2 rfl rfl hS (xmi 3 rfl rfl hS ?_)));obtain ⟨u1028,D7,hs⟩ := bq hs;refine xq 4 (iv (w64 (Int.tdiv x1019 n))) rfl (UH rfl rfl (Wy D7)) hS (xmi 5 rfl rfl hS (xmi 6 rfl rfl hS ?_));obtain ⟨u1029,D8,hs⟩ := bq hs;refine xq 7 (iv (Int.tmod x1019 n)) rfl (zaL rfl rfl (Wy D8)) hS (zN (i := 8) (by kernel_rfl) ?_);obtain ⟨o9,e3,D9,s7,d7,s8⟩ := zg s6 [(iv (w64 (Int.tdiv x1019 n))),(iv (Int.tmod x1019 n))] 3;refine zO (w' := o9) (b := false) (sv (some ⟨e3,0,none⟩) 2 2) rfl (zy rfl (by rw [D9,s7]; kernel_rfl)) rfl (fun _ => hS.ext d7) ?_;obtain ⟨a0,a2,a1,a4,d1,hC⟩ := xt6 d7 a0 a2 a1 a4 d1 hC;have hO := hO.new1 d7 s7 s8.lt;have j4 := zQ (r := ri) (M := M) (css := [[(iv (w64 (Int.tdiv x1019 n)))],[(iv (Int.tmod x1019 n))]]) (fps := [([] : List Nat),([] : List Nat)]) (xs := ([w64 (Int.tdiv x1019 n),Int.tmod x1019 n] : List Int)) s8 ⟨⟨rfl,rfl⟩,⟨⟨rfl,rfl⟩,trivial⟩⟩ (nl rfl) nd1;have j4 : (RT.os 3 ri).val M o9 (sv (some ⟨e3,0,none⟩) 2 2) [w64 (Int.tdiv x1019 n),Int.tmod x1019 n] [e3] := j4;have hS := hS.ext d7;refine zN (i := 9) (by kernel_rfl) ?_;obtain ⟨s9,l9,E0,t0,d2,t1⟩ := zg o9 [(sv (some ⟨e3,0,none⟩) 2 2)] 48;refine zO (w' := s9) (b := false) (sv (some ⟨l9,0,none⟩) 1 1) rfl (zy rfl (by rw [E0,t0]; kernel_rfl)) rfl (fun _ => hS.ext d2) ?_;obtain ⟨a0,a2,a1,a4,d1,j4,hC⟩ := xt7 d2 a0 a2 a1 a4 d1 j4 hC;have hO := (hO.new1 d2 t0 t1.lt).perm (R := (l9 :: (([e3]) ++ [])) ++ (g9 ++ ([b4] ++ (c1 ++ (b2 ++ []))))) (by simp);have E1 := hO.nd;have p0 := zQ (r := (RT.os 3 ri)) (M := M) (css := [[(sv (some ⟨e3,0,none⟩) 2 2)]]) (fps := [([e3] : List Nat)]) (xs := ([[w64 (Int.tdiv x1019 n),Int.tmod x1019 n]] : tM)) t1 ⟨(Zc j4),trivial⟩ (nl rfl) E1;have p0 : (RT.os 48 (RT.os 3 ri)).val M s9 (sv (some ⟨l9,0,none⟩) 1 1) [[w64 (Int.tdiv x1019 n),Int.tmod x1019 n]] (l9 :: (([e3]) ++ [])) := p0;have hS := hS.ext d2;refine zN (i := 10) (by kernel_rfl) ?_;obtain ⟨y1035,E2,hs⟩ := bq hs;have hO := hO.fr1;obtain ⟨m0,m1,m2,E3,E4,E5,h2,E6,j5⟩ := Zg Rw56 E2 d1 p0 hO.inM (fun g hg hq => hO.apart g hq (zn hg));have h3 := zw d1;refine zO (w' := E3) (b := true) (sv m0 m1 m2) rfl (zJ rfl rfl (E5 _)) rfl (fun h => nomatch h) ?_;have hO := hO.fr1.fr1;have a0 := a0.ma h2 hO h3 (fun _ e => (zd (zd (zd (zn (e))))));have a2 := a2.ma h2 hO h3 (fun _ e => (zd (zd (zn (e)))));have a1 := a1.mut h2 (fun g hg => ⟨hO.inM g (h3 g hg),fun e => hO.apart g (h3 g hg) (zd (zd (zd (zn (e)))))⟩) (fun _ _ h => nomatch h);have a4 := a4.ap h2 hO h3 (zd mS);have hC := hC.st h2 hO h3;have hO := hO.eat h2 E6 (zu j5) j5.fpl;refine x_p 11 (pq b4 1) rfl (by kernel_rfl) (fun _ => zj rfl WV) (fun h => nomatch h) (zN (i := 12) (by kernel_rfl) ?_);obtain ⟨t2,E7,h4,p1⟩ := zM (P := Tryz.prog) a4 [(iv 2)] [(sv d9 e0 e1)] [] [(sv m0 m1 m2)] rfl rfl (oc rfl);refine YQ (w' := t2) (b := true) rfl (zL rfl rfl (E7 _ _ rfl Sz56)) rfl (fun h => nomatch h) ?_;have hO := hO.fr1;have a0 := a0.ma h4 hO zf (fun _ e => (zd (zd (zn (e)))));have a2 := a2.ma h4 hO zf (fun _ e => (zd (zn (e))));have a1 := a1.mut h4 (fun g hg => ⟨hO.inM g ((fun _ h => h) g hg),fun e => hO.apart g ((fun _ h => h) g hg) (zd (zd (zn (e))))⟩) (fun _ _ h => nomatch h);have j5 := j5.ma h4 hO zf (fun _ e => (zn (e)));have hC := hC.st h4 hO zf;have hO := hO.ext h4;have p1 : BoxV t2 b4 80 [(iv 2),(sv m0 m1 m2)] := p1;refine xe ?_;clear hS;refine zh (za _ (yad rfl rfl) (mi rfl (zb ?_)));cases hs;have hO := hO.fr3.fr3.fr2.fr3;exact ⟨_,rfl,Zb hd,_,m0,m1,m2,E4,zF 120 ⟨rfl,rfl,rfl,rfl,rfl,rfl,rfl,rfl,congrArg (Value.int .i64) (ZZ hlt (Int.natCast_nonneg _) (xj a1)),trivial⟩,hC,hO,a0,a2,a1,p1,j5⟩
   ·have hO := hO.fr2.fr2.fr2.nil;exact ⟨0,rfl,rfl,_,none,0,0,[],fr_m 120 rfl,hC,hO,a0,a2,a1,a4,xW⟩
   cases o1020 with
   | nx _ => trivial
   | rt r_ =>
    have hs := zr hs;intro d8 j8 hK;cases hs;exact hK
   | br s1016 =>
    have hs := zq hs;rintro d8 a5 ⟨σ,e6,e7,e8,h1,rfl,hC,hO,a0,a2,a1,a4,p2⟩;refine zh (ms rfl (za _ (ldw rfl Ag80 a4 Sz80) ?_));obtain ⟨t3,m3,E8,t4,e9,t5⟩ := zg a5 [(iv 2),(sv e6 e7 e8)] 80;refine za (w' := t3) (sv (some ⟨m3,0,none⟩) 1 1) (zy rfl (by rw [E8,t4]; kernel_rfl)) ?_;obtain ⟨a0,a2,a1,a4,p2,hC⟩ := xt6 e9 a0 a2 a1 a4 p2 hC;have hO := (hO.new1 e9 t4 t5.lt).perm (R := (m3 :: ((h1) ++ [])) ++ ([b4] ++ (c1 ++ (b2 ++ [])))) (by simp);have E9 := hO.nd;have p3 := zQ (r := (RT.pr ri (RT.os 48 (RT.os 3 ri)))) (M := M) (css := [[(iv 2),(sv e6 e7 e8)]]) (fps := [(h1 : List Nat)]) (xs := ([(2,s1016)] : List (Int × tM))) t5 ⟨⟨_,_,_,_,rfl,rfl,⟨rfl,rfl⟩,(Zc p2)⟩,trivial⟩ (nl rfl) E9;have p3 : (RT.os 80 (RT.pr ri (RT.os 48 (RT.os 3 ri)))).val M t3 (sv (some ⟨m3,0,none⟩) 1 1) [(2,s1016)] (m3 :: ((h1) ++ [])) := p3;obtain ⟨y1041,F0,hs⟩ := bq hs;have hO := hO.fr2;obtain ⟨p4,p5,p6,F1,F2,F3,j6,F4,p7⟩ := Zg Rw42 F0 a2 p3 hO.inM (fun g hg hq => hO.apart g hq (zn hg));have j7 := zw a2;refine za (w' := F1) (sv p4 p5 p6) (zJ rfl rfl (F3 _)) ?_;have hO := hO.fr1.fr1;have a0 := a0.ma j6 hO j7 (fun _ e => (zd (zd (zn (e)))));have a1 := a1.mut j6 (fun g hg => ⟨hO.inM g (j7 g hg),fun e => hO.apart g (j7 g hg) (zd (zd (zn (e))))⟩) (fun _ _ h => nomatch h);have a4 := a4.ap j6 hO j7 (zd mS);have hC := hC.st j6 hO j7;have hO := hO.eat j6 F4 (zu p7) p7.fpl;refine ax rfl (zb (zh (za _ (yad rfl rfl) (mi rfl (zb ?_)))));cases hs;have hO := hO.fr1.drop.fr1.fr1;exact ⟨_,rfl,Zb hd,_,p4,p5,p6,F2,zF 120 ⟨rfl,rfl,rfl,rfl,congrArg (Value.int .i64) (ZZ hlt (Int.natCast_nonneg _) (zbG a0)),trivial⟩,hC,hO,a0,p7⟩
  ·have hO := hO.fr1.fr1;exact ⟨0,rfl,rfl,_,(some ⟨g1,0,none⟩),0,0,[g1],fr_m 120 rfl,hC,hO,a0,o8⟩
  cases o977 with
  | nx _ => trivial
  | rt r_ =>
   have hs := zr hs;intro d8 j8 hK;cases hs;exact hK
  | br s973 =>
   have hs := zq hs;rintro d8 b3 ⟨σ,g2,g3,g4,l8,rfl,hC,hO,a0,t6⟩;refine c_sr (ms rfl (ax rfl (ab rfl (zb (wp_ret ?_)))));obtain ⟨u1043,F5,hs⟩ := bq hs;cases hs;have hO := hO.fr1.drop;exact ⟨_,g2,g3,g4,l8,fr_m 120 rfl,hC,t6,(os_nn t6 F5),hO.top⟩

def zaS (M : Nat → Prop) (w0 : World) (r : (List Int)) (a : Act) (w : World) : Prop :=
  ∃ σ ra0 rn0 rc0 rf0,a = fr 6 (ovl σ [(2,(sv ra0 rn0 rc0))]) ∧ Chg [] w0 w ∧ (RT.os 3 ri).val M w (sv ra0 rn0 rc0) r rf0 ∧ Option.isNone ra0 = false ∧ Own (Nw w0 []) (fun _ => True) w (rf0 ++ [])
def YS (list : List Int) : Option ((List Int)) :=
  (app ([]) list).bind fun y5 =>
  some y5
theorem Wm (list : List Int) (h0 : rl.val M w (sv pa0 pn0 pc0) list []) (hM : Hm w M) {r : (List Int)} (hs : YS list = some r) :
    Gives Tryz.prog 99 [(sv pa0 pn0 pc0)] w (fun v w' => ∃ ra0 rn0 rc0 rf0,v = (sv ra0 rn0 rc0) ∧ Chg [] w w' ∧ (RT.os 3 ri).val M w' (sv ra0 rn0 rc0) r rf0 ∧ Option.isNone ra0 = false ∧ Own (Nw w []) (fun _ => True) w' (rf0 ++ [])) := by
 refine zx Tryz.func99 rfl Tryz.ntmps99 (nl rfl) ?_;obtain ⟨hO,hC⟩ := st0 hM;unfold YS at hs;refine wp_k (K := (zaS M w r)) (by rintro _ _ ⟨σ,ra0,rn0,rc0,rf0,rfl,hrest⟩; exact Zd Tryz.results99 (zH rfl) ⟨ra0,rn0,rc0,rf0,rfl,hrest⟩) (c_sr (ax rfl (zb (c_sr ?_))));obtain ⟨a8,a1,b2,a9,a2,b0⟩ := zg w [] 3;refine za (w' := a8) (sv (some ⟨a1,0,none⟩) 0 0) (zy rfl (by rw [b2,a9]; kernel_rfl)) ?_;obtain ⟨h0,hC⟩ := xt2 a2 h0 hC;have hO := hO.new1 a2 a9 b0.lt;have a0 := os0 (r := ri) (M := M) b0;refine ms rfl ?_;obtain ⟨y5,b3,hs⟩ := bq hs;obtain ⟨a3,a4,a5,b4,b5,b6,a6,b7,a7,b8⟩ := app_rs_nn Rw48 b3 a0 h0 hO.inM;have b1 := zw a0;refine za (w' := b4) (sv a3 a4 a5) (zJ rfl rfl (b6 _)) ?_;have h0 := h0.mt a6 hO b1;have hC := hC.st a6 hO b1;have hO := hO.grow a6 b7 (zu a7) a7.fpl;refine ax rfl (zb (wp_ret ?_));cases hs;exact ⟨_,a3,a4,a5,b5,fr_m 6 rfl,hC,a7,b8,hO.top⟩

theorem Bd99 : zK Tryz.prog 99 := zP Tryz.func99 (by kernel_rfl) rfl

def Uy (M : Nat → Prop) (w0 : World) (r : (Int × (List Int))) (a : Act) (w : World) : Prop :=
  ∃ σ rg2 ra0 rn0 rc0 rf0,a = fr 9 (ovl σ [(2,(pq rg2 0))]) ∧ BoxV w rg2 50 [(iv r.1),(sv ra0 rn0 rc0)] ∧ Chg [] w0 w ∧ (RT.os 3 ri).val M w (sv ra0 rn0 rc0) r.2 rf0 ∧ Own (Nw w0 []) (fun _ => True) w (rf0 ++ [])
def YH (f : Int × (List Int)) : Option ((Int × (List Int))) :=
  (YS f.2).bind fun r6 =>
  some (f.1,r6)
theorem Uo (f : Int × (List Int)) (h0 : rl.val M w (sv pa0 pn0 pc0) f.2 []) (hM : Hm w M) {r : (Int × (List Int))} (hs : YH f = some r) :
    Gives Tryz.prog 60 [(.agg #[(iv f.1),(sv pa0 pn0 pc0)])] w (fun v w' => ∃ ra0 rn0 rc0 rf0,v = (.agg #[(iv r.1),(sv ra0 rn0 rc0)]) ∧ Chg [] w w' ∧ (RT.os 3 ri).val M w' (sv ra0 rn0 rc0) r.2 rf0 ∧ Own (Nw w []) (fun _ => True) w' (rf0 ++ [])) := by
 refine zx Tryz.func60 rfl Tryz.ntmps60 (nl rfl) ?_;obtain ⟨hO,hC⟩ := st0 hM;unfold YH at hs;refine wp_k (K := (Uy M w r)) (by rintro _ _ ⟨σ,rg2,ra0,rn0,rc0,rf0,rfl,hbrg2,hrest⟩; exact Zd Tryz.results60 (xu rfl (Zn Ag50 Sz50 hbrg2 [] _ [] rfl rfl (fun h => nomatch h))) ⟨ra0,rn0,rc0,rf0,rfl,hrest⟩) (c_sr ?_);obtain ⟨b6,a8,c1,b7,b2,a0⟩ := zg w [(iv f.1),(sv pa0 pn0 pc0)] 50;refine za (w' := b6) (pq a8 0) (Zx rfl (by rw [c1,b7]; kernel_rfl)) ?_;obtain ⟨h0,hC⟩ := xt2 b2 h0 hC;have hO := hO.new1 b2 b7 a0.lt;obtain ⟨b3,a9,c2,b8,b0,a2⟩ := zg b6 [(iv 0),(sv none 0 0)] 50;refine za (w' := b3) (pq a9 0) (Zy (by rw [c2,b8]; kernel_rfl)) ?_;obtain ⟨h0,a0,hC⟩ := xt3 b0 h0 a0 hC;have hO := hO.new1 b0 b8 a2.lt;refine zb (ze (Za [6] Mx rfl ?_));have a3 := Chg.drew b3;generalize World.drew b3 = c3 at a3 ⊢;obtain ⟨h0,a0,a2,hC,hO⟩ := xt5 a3 h0 a0 a2 hC hO;have hS := Chg.refl [] c3;refine xq 0 (pq a8 0) rfl (zj rfl yW) hS (xl 1 rfl (ldx rfl Ag3 Sz3 a0 rfl) hS (xq 2 (pq a8 1) rfl (zj rfl YD) hS (xl 3 rfl (ldx rfl Ag48 Sz48 a0 rfl) hS (zN (i := 4) (by kernel_rfl) ?_))));obtain ⟨r6,c4,hs⟩ := bq hs;refine zV (b := false) rfl Bd99 rfl (Wm (M := M) f.2 h0 hO.fut c4) rfl (by rintro _ _ _ ⟨a4,a5,a6,b4,rfl,a1,b1,c5,b9⟩; exact hS.ext a1) ?_;rintro _ c8 ⟨a4,a5,a6,b4,rfl,a1,b1,c5,b9⟩;obtain ⟨h0,a0,a2,hC⟩ := xt4 a1 h0 a0 a2 hC;have hO := Own.join0 hO a1 b9;have hO := hO.perm (R := b4 ++ ([a9] ++ ([a8] ++ []))) (by simp);have hS := hS.ext a1;refine xq 5 (.agg #[(iv f.1),(sv a4 a5 a6)]) rfl (yj rfl (by kernel_rfl)) hS (zN (i := 6) (by kernel_rfl) ?_);obtain ⟨c0,c6,a7,b5⟩ := zM (P := Tryz.prog) a2 [] [(iv 0),(sv none 0 0)] [] [(iv f.1),(sv a4 a5 a6)] rfl rfl (oc rfl);refine YQ (w' := c0) (b := true) rfl (zL rfl rfl (c6 _ _ rfl Sz50)) rfl (fun h => nomatch h) ?_;have hO := hO.fr1;have h0 := h0.mt a7 hO zf;have a0 := a0.ap a7 hO zf (zd mS);have b1 := b1.ma a7 hO zf (fun _ e => (zn (e)));have hC := hC.st a7 hO zf;have hO := hO.ext a7;have b5 : BoxV c0 a9 50 [(iv f.1),(sv a4 a5 a6)] := b5;refine xe ?_;clear hS;refine wp_ret ?_;cases hs;have hO := hO.drop.fr1.drop;exact ⟨_,a9,a4,a5,a6,b4,fr_m 9 rfl,b5,hC,b1,hO.top⟩

theorem Bd60 : zK Tryz.prog 60 := zP Tryz.func60 (by kernel_rfl) rfl

def XO (M : Nat → Prop) (w0 : World) (r : tA) (a : Act) (w : World) : Prop :=
  ∃ σ rg2 ra0 rn0 rc0 rf0,a = fr 25 (ovl σ [(2,(pq rg2 0))]) ∧ BoxV w rg2 30 [(iv r.1),(sv ra0 rn0 rc0)] ∧ Chg [] w0 w ∧ (RT.os 50 (RT.pr ri (RT.os 3 ri))).val M w (sv ra0 rn0 rc0) r.2 rf0 ∧ Own (Nw w0 []) (fun _ => True) w (rf0 ++ [])
def yq (a_ : Int × (List (Int × (List Int)))) : Option ((Int × (List (Int × (List Int))))) :=
  (forR (S := (List (Int × (List Int)))) (R := (Int × (List (Int × (List Int))))) (fun _ x43 s40 =>
  (YH (x43.1,x43.2)).bind fun r57 =>
  (app s40 ([(r57.1,r57.2)])).bind fun y62 =>
  some (.nx y62)) 0 a_.2 ([])).bind fun o44 => after o44 (fun r_ => some r_) (fun s40 =>
  some (a_.1,s40))
theorem vm (a_ : tA) (h0 : rp.val M w (sv pa0 pn0 pc0) a_.2 []) (hM : Hm w M) {r : tA} (hs : yq a_ = some r) :
    Gives Tryz.prog 29 [(.agg #[(iv a_.1),(sv pa0 pn0 pc0)])] w (fun v w' => ∃ ra0 rn0 rc0 rf0,v = (.agg #[(iv r.1),(sv ra0 rn0 rc0)]) ∧ Chg [] w w' ∧ (RT.os 50 (RT.pr ri (RT.os 3 ri))).val M w' (sv ra0 rn0 rc0) r.2 rf0 ∧ Own (Nw w []) (fun _ => True) w' (rf0 ++ [])) := by
 refine zx Tryz.func29 rfl Tryz.ntmps29 (nl rfl) ?_;obtain ⟨hO,hC⟩ := st0 hM;unfold yq at hs;refine wp_k (K := (XO M w r)) (by rintro _ _ ⟨σ,rg2,ra0,rn0,rc0,rf0,rfl,hbrg2,hrest⟩; exact Zd Tryz.results29 (xu rfl (Zn Ag30 Sz30 hbrg2 [] _ [] rfl rfl (fun h => nomatch h))) ⟨ra0,rn0,rc0,rf0,rfl,hrest⟩) (c_sr ?_);obtain ⟨f2,e2,g8,f3,e3,b0⟩ := zg w [(iv a_.1),(sv pa0 pn0 pc0)] 30;refine za (w' := f2) (pq e2 0) (Zx rfl (by rw [g8,f3]; kernel_rfl)) ?_;obtain ⟨h0,hC⟩ := xt2 e3 h0 hC;have hO := hO.new1 e3 f3 b0.lt;obtain ⟨f4,a7,g9,f5,d3,a0⟩ := zg f2 [(iv 0),(sv none 0 0)] 30;refine za (w' := f4) (pq a7 0) (Zy (by rw [g9,f5]; kernel_rfl)) ?_;obtain ⟨h0,b0,hC⟩ := xt3 d3 h0 b0 hC;have hO := hO.new1 d3 f5 a0.lt;refine zb (c_sr (za (pq e2 0) (zj rfl ZV) (za _ (ld rfl Ag3 Sz3 b0 rfl) (za (.agg #[(iv a_.1),(sv none 0 0)]) (yj rfl (by kernel_rfl)) ?_))));obtain ⟨h1,a5,h2,f6,c5,f7⟩ := zg f4 [(iv 0),(sv none 0 0)] 30;refine za (w' := h1) (pq a5 0) (Zy (by rw [h2,f6]; kernel_rfl)) ?_;obtain ⟨h0,b0,a0,hC⟩ := xt4 c5 h0 b0 a0 hC;have hO := hO.new1 c5 f6 f7.lt;obtain ⟨f8,h3,c6,a1⟩ := zM (P := Tryz.prog) f7 [] [(iv 0),(sv none 0 0)] [] [(iv a_.1),(sv none 0 0)] rfl rfl (oc rfl);refine zS (w' := f8) (zL rfl rfl (h3 _ _ rfl Sz30)) ?_;have h0 := h0.mt c6 hO zf;have b0 := b0.ap c6 hO zf (zd mS);have a0 := a0.ap c6 hO zf mS;have hC := hC.st c6 hO zf;have hO := hO.ext c6;have a1 : BoxV f8 a5 30 [(iv a_.1),(sv none 0 0)] := a1;refine zb (ze (c_sr (za (pq e2 1) (zj rfl ZH) (za _ (ld rfl Ag28 Sz28 b0 rfl) (za _ (zt Sl28 (zB h0) rfl) (mi rfl (zb ?_)))))));have hO := hO.fr2.drop;obtain ⟨o44,h4,hs⟩ := bq hs;refine wp_block (Yl (id := 0) (I := fun i_ xs_ s40 a a2 => ∃ b1 : Nat,i_ = (b1 : Int) ∧ List.drop b1 a_.2 = xs_ ∧ (∃ σ b3 b4 b5 c0,a = fr 25 (ovl σ [(2,(pq a7 0)),(3,(pq a5 0)),(10,(sv pa0 pn0 pc0)),(11,(iv (a_.2.length : Int))),(12,(iv (b1 : Int)))]) ∧ Chg [] w a2 ∧ Own (Nw w []) M a2 (c0 ++ ([a5] ++ ([a7] ++ []))) ∧ rp.val M a2 (sv pa0 pn0 pc0) a_.2 [] ∧ BoxV a2 a7 30 [(iv 0),(sv none 0 0)] ∧ BoxV a2 a5 30 [(iv a_.1),(sv b3 b4 b5)] ∧ (RT.os 50 (RT.pr ri (RT.os 3 ri))).val M a2 (sv b3 b4 b5) s40 c0)) (J := fun s40 a a2 => ∃ σ b6 b7 b8 d4,a = fr 25 (ovl σ [(2,(pq a7 0)),(3,(pq a5 0))]) ∧ Chg [] w a2 ∧ Own (Nw w []) M a2 (d4 ++ ([a5] ++ ([a7] ++ []))) ∧ rp.val M a2 (sv pa0 pn0 pc0) a_.2 [] ∧ BoxV a2 a7 30 [(iv 0),(sv none 0 0)] ∧ BoxV a2 a5 30 [(iv a_.1),(sv b6 b7 b8)] ∧ (RT.os 50 (RT.pr ri (RT.os 3 ri))).val M a2 (sv b6 b7 b8) s40 d4) (K := (XO M w)) ?_ ?_ a_.2 0 [] o44 _ _ ?_ h4 ?_)
 ·rintro _ s40 a a2 ⟨b1,rfl,hd,σ,b3,b4,b5,c0,rfl,hC,hO,h0,a0,a1,a4⟩;have hlt := ZJ hd;refine c_sr (za _ (zA rfl rfl) (zb (ze (zk (df hlt) (wp_exit ?_)))));have hO := hO.fr2.fr2.fr2;exact ⟨rfl,_,b3,b4,b5,c0,fr_m 25 rfl,hC,hO,h0,a0,a1,a4⟩
 ·rintro _ x43 xs_ s40 o44 a a2 ⟨b1,rfl,hd,σ,b3,b4,b5,c0,rfl,hC,hO,h0,a0,a1,a4⟩ hs;have hlt := Zt hd;have h5 := Zk hd;refine c_sr (za _ (zA rfl rfl) (zb (ze (zl (dt hlt) (wp_skip (ze (wp_block (c_sr ?_))))))));obtain ⟨h6,h7,h8,e4⟩ := zI Sl28 Sz50 h0 h5;refine za _ (ip h8 rfl rfl) ?_;obtain ⟨k1,h9,i0⟩ := zT Ag50 Sz50 (by intro h; cases h) e4;obtain ⟨k2,rfl,i1⟩ := i0;obtain ⟨k3,k4,rfl,i2,i3⟩ := YG i1;obtain rfl := xy i2;obtain ⟨c7,c8,c9,rfl,a3⟩ := xb i3;refine za (.agg #[(iv x43.1),(sv c7 c8 c9)]) (zo rfl (h9 _ (Chg.refl _ _))) ?_;obtain ⟨i4,d5,i5,f9,b9,g0⟩ := zg a2 [(iv 0),(sv none 0 0)] 50;refine za (w' := i4) (pq d5 0) (Zy (by rw [i5,f9]; kernel_rfl)) ?_;obtain ⟨h0,a0,a1,a4,a3,e4,hC⟩ := xt7 b9 h0 a0 a1 a4 a3 e4 hC;have hO := hO.new1 b9 f9 g0.lt;obtain ⟨d6,i6,c1,a6⟩ := zM (P := Tryz.prog) g0 [] [(iv 0),(sv none 0 0)] [] [(iv x43.1),(sv c7 c8 c9)] rfl rfl (oc rfl);refine zS (w' := d6) (zL rfl rfl (i6 _ _ rfl Sz50)) ?_;have h0 := h0.mt c1 hO zf;have a0 := a0.ap c1 hO zf (zd (zd mS));have a1 := a1.ap c1 hO zf (zd mS);have a4 := a4.ma c1 hO zf (fun _ e => (zn (e)));have a3 := a3.mt c1 hO zf;have hC := hC.st c1 hO zf;have hO := hO.ext c1;have a6 : BoxV d6 d5 50 [(iv x43.1),(sv c7 c8 c9)] := a6;refine zb (Za [5,7] Mx rfl ?_);have b2 := Chg.drew d6;generalize World.drew d6 = i7 at b2 ⊢;obtain ⟨h0,a0,a1,a4,a3,a6,hC,hO⟩ := xt8 b2 h0 a0 a1 a4 a3 a6 hC hO;have hS := Chg.refl [] i7;refine xq 0 (pq a5 1) rfl (zj rfl ZH) hS (xl 1 rfl (ldx rfl Ag28 Sz28 a1 rfl) hS (xl 2 rfl (ldxw rfl Ag50 a6 Sz50) hS (zN (i := 3) (by kernel_rfl) ?_)));obtain ⟨r57,i9,hs⟩ := bq hs;refine zV (b := false) rfl Bd60 rfl (Uo (M := M) (x43.1,x43.2) a3 hO.fut i9) rfl (by rintro _ _ _ ⟨e5,e6,e7,d0,rfl,a8,d7,g1⟩; exact hS.ext a8) ?_;rintro _ j0 ⟨e5,e6,e7,d0,rfl,a8,d7,g1⟩;obtain ⟨h0,a0,a1,a4,a3,a6,hC⟩ := xt7 a8 h0 a0 a1 a4 a3 a6 hC;have hO := Own.join0 hO a8 g1;have hO := hO.perm (R := d0 ++ ([d5] ++ (c0 ++ ([a5] ++ ([a7] ++ []))))) (by simp);have hS := hS.ext a8;refine zN (i := 4) (by kernel_rfl) ?_;obtain ⟨g2,d8,j1,g3,a9,g4⟩ := zg j0 [(iv r57.1),(sv e5 e6 e7)] 50;refine zO (w' := g2) (b := false) (sv (some ⟨d8,0,none⟩) 1 1) rfl (zy rfl (by rw [j1,g3]; kernel_rfl)) rfl (fun _ => hS.ext a9) ?_;obtain ⟨h0,a0,a1,a4,a3,a6,d7,hC⟩ := xt8 a9 h0 a0 a1 a4 a3 a6 d7 hC;have hO := (hO.new1 a9 g3 g4.lt).perm (R := (d8 :: ((d0) ++ [])) ++ ([d5] ++ (c0 ++ ([a5] ++ ([a7] ++ []))))) (by simp);have j2 := hO.nd;have e8 := zQ (r := (RT.pr ri (RT.os 3 ri))) (M := M) (css := [[(iv r57.1),(sv e5 e6 e7)]]) (fps := [(d0 : List Nat)]) (xs := ([(r57.1,r57.2)] : List (Int × (List Int)))) g4 ⟨⟨_,_,_,_,rfl,rfl,⟨rfl,rfl⟩,(Zc d7)⟩,trivial⟩ (nl rfl) j2;have e8 : (RT.os 50 (RT.pr ri (RT.os 3 ri))).val M g2 (sv (some ⟨d8,0,none⟩) 1 1) [(r57.1,r57.2)] (d8 :: ((d0) ++ [])) := e8;have hS := hS.ext a9;refine zN (i := 5) (by kernel_rfl) ?_;obtain ⟨y62,j3,hs⟩ := bq hs;have hO := hO.fr2;obtain ⟨d9,e0,e1,j4,j5,j6,c2,j7,d1⟩ := Zg Rw28 j3 a4 e8 hO.inM (fun g hg hq => hO.apart g hq (zn hg));have c4 := zw a4;refine zO (w' := j4) (b := true) (sv d9 e0 e1) rfl (zJ rfl rfl (j6 _)) rfl (fun h => nomatch h) ?_;have hO := hO.fr1.fr1;have h0 := h0.mt c2 hO c4;have a0 := a0.ap c2 hO c4 (zd (zd (zd mS)));have a1 := a1.ap c2 hO c4 (zd (zd mS));have a3 := a3.mt c2 hO c4;have a6 := a6.ap c2 hO c4 (zd mS);have hC := hC.st c2 hO c4;have hO := hO.eat c2 j7 (zu d1) d1.fpl;refine x_p 6 (pq a5 1) rfl (by kernel_rfl) (fun _ => zj rfl ZH) (fun h => nomatch h) (zN (i := 7) (by kernel_rfl) ?_);obtain ⟨g5,j8,c3,e9⟩ := zM (P := Tryz.prog) a1 [(iv a_.1)] [(sv b3 b4 b5)] [] [(sv d9 e0 e1)] rfl rfl (oc rfl);refine YQ (w' := g5) (b := true) rfl (zL rfl rfl (j8 _ _ rfl Sz28)) rfl (fun h => nomatch h) ?_;have hO := hO.fr2;have h0 := h0.mt c3 hO zf;have a0 := a0.ap c3 hO zf (zd (zd mS));have a3 := a3.mt c3 hO zf;have a6 := a6.ap c3 hO zf (zd mS);have d1 := d1.ma c3 hO zf (fun _ e => (zn (e)));have hC := hC.st c3 hO zf;have hO := hO.ext c3;have e9 : BoxV g5 a5 30 [(iv a_.1),(sv d9 e0 e1)] := e9;refine xe ?_;clear hS;refine zh (za _ (yad rfl rfl) (mi rfl (zb ?_)));cases hs;have hO := hO.fr2.drop.fr2.fr1.fr2;exact ⟨_,rfl,Zb hd,_,d9,e0,e1,j5,zF 25 ⟨rfl,rfl,rfl,rfl,congrArg (Value.int .i64) (ZZ hlt (Int.natCast_nonneg _) (xj h0)),trivial⟩,hC,hO,h0,a0,e9,d1⟩
 ·have hO := hO.fr1.fr1.nil;exact ⟨0,rfl,rfl,_,none,0,0,[],fr_m 25 rfl,hC,hO,h0,a0,a1,xW⟩
 cases o44 with
 | nx _ => trivial
 | rt r_ =>
  have hs := zr hs;intro j9 g7 hK;cases hs;exact hK
 | br s40 =>
  have hs := zq hs;rintro j9 a2 ⟨σ,b6,b7,b8,d4,rfl,hC,hO,h0,a0,a1,f0⟩;refine c_sr (za _ (ldw rfl Ag30 a1 Sz30) ?_);obtain ⟨g6,k0,d2,f1⟩ := zM (P := Tryz.prog) a0 [] [(iv 0),(sv none 0 0)] [] [(iv a_.1),(sv b6 b7 b8)] rfl rfl (oc rfl);refine zS (w' := g6) (zL rfl rfl (k0 _ _ rfl Sz30)) ?_;have hO := hO.fr2;have h0 := h0.mt d2 hO zf;have a1 := a1.ap d2 hO zf (zd mS);have f0 := f0.ma d2 hO zf (fun _ e => (zn (e)));have hC := hC.st d2 hO zf;have hO := hO.ext d2;have f1 : BoxV g6 a7 30 [(iv a_.1),(sv b6 b7 b8)] := f1;refine zb (wp_ret ?_);cases hs;have hO := hO.drop.fr1.drop;exact ⟨_,a7,b6,b7,b8,d4,fr_m 25 rfl,f1,hC,f0,hO.top⟩

shelf_lay Lays.n102 Nm 102 at Tryz as laysTrim
def xk (s_ : ByteArray) (suffix : ByteArray) : Option (ByteArray) :=
  (bif decide (s_.size ≤ 1000) then some (sTrim s_ suffix) else none)
theorem WR {M : Nat → Prop} {w : World}  (s_ : ByteArray) (suffix : ByteArray) (hM : Hm w M) {r : ByteArray} (hs : xk s_ suffix = some r) :
    Gives Tryz.prog 75 [(.string s_),(.string suffix)] w (fun v w' => v = (.string r) ∧ Chg [] w w') := by
 unfold xk at hs;exact x_trim laysTrim hs

shelf_lay Lays.n146 Nm 146 at Tryz as laysSplit
def XM (s_ : ByteArray) (sep : ByteArray) : Option ((List ByteArray)) :=
  (bif decide (s_.size ≤ 1000) && decide (1 ≤ sep.size) then some (wr s_ sep) else none)
theorem uQ {M : Nat → Prop} {w : World}  (s_ : ByteArray) (sep : ByteArray) (hM : Hm w M) (hG : Glo 0 w) {r : (List ByteArray)} (hs : XM s_ sep = some r) :
    Gives Tryz.prog 74 [(.string s_),(.string sep)] w (fun v w' => ∃ ra0 rn0 rc0 rf0,v = (sv ra0 rn0 rc0) ∧ Chg [] w w' ∧ (RT.os 9 RT.str).val M w' (sv ra0 rn0 rc0) r rf0 ∧ Own (Nw w []) (fun _ => True) w' (rf0 ++ [])) := by
 unfold XM at hs;exact x_split laysSplit (by kernel_rfl) hG hM hs

shelf_lay Lays.n145 Nm 145 at Tryz as laysCut
def wI (s_ : ByteArray) (sep : ByteArray) : Option (ByteArray × ByteArray × Bool) :=
  (bif decide (s_.size ≤ 1000) then some (sCut s_ sep) else none)
theorem zal {M : Nat → Prop} {w : World}  (s_ : ByteArray) (sep : ByteArray) (hM : Hm w M) (hG : Glo 0 w) {r : ByteArray × ByteArray × Bool} (hs : wI s_ sep = some r) :
    Gives Tryz.prog 76 [(.string s_),(.string sep)] w (fun v w' => v = (.tuple #[(.string r.1),(.string r.2.1),(.bool r.2.2)]) ∧ Chg [] w w') := by
 unfold wI at hs;exact x_cut laysCut hG hs

def Wx (M : Nat → Prop) (w0 : World) (r : (List Int)) (a : Act) (w : World) : Prop :=
  ∃ σ ra0 rn0 rc0 rf0,a = fr 21 (ovl σ [(2,(sv ra0 rn0 rc0))]) ∧ Chg [] w0 w ∧ (RT.os 3 ri).val M w (sv ra0 rn0 rc0) r rf0 ∧ Own (Nw w0 []) (fun _ => True) w (rf0 ++ [])
def xT (s_ : ByteArray) : Option ((List Int)) :=
  (forC (S := (List Int)) (R := (List Int)) (fun k13 s11 =>
  (idxs s_ k13).bind fun x21 =>
  (app s11 ([w64 (IntKind.u8.wrap (x21 - 48))])).bind fun y25 =>
  some (.nx y25)) 0 (s_.size : Int) ([])).bind fun o15 => after o15 (fun r_ => some r_) (fun s11 =>
  some s11)
theorem WB {M : Nat → Prop} {w : World}  (s_ : ByteArray) (hM : Hm w M) {r : (List Int)} (hs : xT s_ = some r) :
    Gives Tryz.prog 77 [(.string s_)] w (fun v w' => ∃ ra0 rn0 rc0 rf0,v = (sv ra0 rn0 rc0) ∧ Chg [] w w' ∧ (RT.os 3 ri).val M w' (sv ra0 rn0 rc0) r rf0 ∧ Own (Nw w []) (fun _ => True) w' (rf0 ++ [])) := by
 refine zx Tryz.func77 rfl Tryz.ntmps77 (nl rfl) ?_;obtain ⟨hO,hC⟩ := st0 hM;unfold xT at hs;refine wp_k (K := (Wx M w r)) (by rintro _ _ ⟨σ,ra0,rn0,rc0,rf0,rfl,hrest⟩; exact Zd Tryz.results77 (zH rfl) ⟨ra0,rn0,rc0,rf0,rfl,hrest⟩) (c_sr (ax rfl (zb (c_sr ?_))));obtain ⟨b0,a1,c7,c0,c1,c2⟩ := zg w [] 3;refine za (w' := b0) (sv (some ⟨a1,0,none⟩) 0 0) (zy rfl (by rw [c7,c0]; kernel_rfl)) ?_;have hC := hC.ext c1;have hO := hO.new1 c1 c0 c2.lt;have b2 := os0 (r := ri) (M := M) c2;refine ax rfl (zb (ze (c_sr (ai rfl (zb ?_)))));obtain ⟨o15,c8,hs⟩ := bq hs;refine wp_block (zU (id := 0) (s_.size : Int) (I := fun k13 s11 a a0 => ∃ σ a2 a3 a4 a9,a = fr 21 (ovl σ [(0,(.string s_)),(3,(sv a2 a3 a4)),(4,(iv k13))]) ∧ Chg [] w a0 ∧ Own (Nw w []) M a0 (a9 ++ []) ∧ (RT.os 3 ri).val M a0 (sv a2 a3 a4) s11 a9) (J := fun s11 a a0 => ∃ σ a5 a6 a7 b1,a = fr 21 (ovl σ [(3,(sv a5 a6 a7))]) ∧ Chg [] w a0 ∧ Own (Nw w []) M a0 (b1 ++ []) ∧ (RT.os 3 ri).val M a0 (sv a5 a6 a7) s11 b1) (K := (Wx M w)) ?_ ?_ 0 [] o15 _ _ ?_ c8 ?_)
 ·rintro k13 s11 a a0 ⟨σ,a2,a3,a4,a9,rfl,hC,hO,a8⟩ hlt;refine ze (c_sr (mi rfl (za (.string s_) (zD rfl) (za (iv (s_.size : Int)) (zdf Tryz.underlying9 rfl) (za _ (zA rfl rfl) (zb (zk (df hlt) (wp_exit ?_))))))));exact ⟨rfl,_,a2,a3,a4,a9,fr_m 21 rfl,hC,hO,a8⟩
 ·rintro k13 s11 o15 a a0 ⟨σ,a2,a3,a4,a9,rfl,hC,hO,a8⟩ hlt hw hs;refine ze (c_sr (mi rfl (za (.string s_) (zD rfl) (za (iv (s_.size : Int)) (zdf Tryz.underlying9 rfl) (za _ (zA rfl rfl) (zb (zl (dt hlt) (wp_skip (ze (wp_block (zh (ms rfl (za (.string s_) (zD rfl) (mi rfl ?_))))))))))))));obtain ⟨x21,c9,hs⟩ := bq hs;refine za (.int .u8 x21) (y_idxS Tryz.underlying9 c9 rfl rfl) (za (.int .u8 (IntKind.u8.wrap (x21 - 48))) (y_sub rfl rfl) (za (iv (w64 (IntKind.u8.wrap (x21 - 48)))) (Yh Tryz.underlying5 Tryz.underlying3 rfl) ?_));obtain ⟨c3,b3,d0,c4,b4,c5⟩ := zg a0 [(iv (w64 (IntKind.u8.wrap (x21 - 48))))] 3;refine za (w' := c3) (sv (some ⟨b3,0,none⟩) 1 1) (zy rfl (by rw [d0,c4]; kernel_rfl)) ?_;obtain ⟨a8,hC⟩ := xt2 b4 a8 hC;have hO := hO.new1 b4 c4 c5.lt;have b5 := zQ (r := ri) (M := M) (css := [[(iv (w64 (IntKind.u8.wrap (x21 - 48))))]]) (fps := [([] : List Nat)]) (xs := ([w64 (IntKind.u8.wrap (x21 - 48))] : List Int)) c5 ⟨⟨rfl,rfl⟩,trivial⟩ (nl rfl) nd1;have b5 : (RT.os 3 ri).val M c3 (sv (some ⟨b3,0,none⟩) 1 1) [w64 (IntKind.u8.wrap (x21 - 48))] [b3] := b5;obtain ⟨y25,d1,hs⟩ := bq hs;have hO := hO.fr1;obtain ⟨b6,b7,b8,d2,d3,d4,c6,d5,b9⟩ := Zg Rw48 d1 a8 b5 hO.inM (fun g hg hq => hO.apart g hq (zn hg));have d6 := zw a8;refine za (w' := d2) (sv b6 b7 b8) (zJ rfl rfl (d4 _)) ?_;have hO := hO.fr1.fr1;have hC := hC.st c6 hO d6;have hO := hO.eat c6 d5 (zu b9) b9.fpl;refine ax rfl (zb (zh (mi rfl (za _ (yad rfl rfl) (ai rfl (zb ?_))))));cases hs;exact ⟨_,b6,b7,b8,d3,zF 21 ⟨rfl,rfl,congrArg (Value.int .i64) hw,trivial⟩,hC,hO,b9⟩
 ·exact ⟨_,(some ⟨a1,0,none⟩),0,0,[a1],fr_m 21 rfl,hC,hO,b2⟩
 cases o15 with
 | nx _ => trivial
 | rt r_ =>
  have hs := zr hs;intro d7 b0 hK;cases hs;exact hK
 | br s11 =>
  have hs := zq hs;rintro d7 a0 ⟨σ,a5,a6,a7,b1,rfl,hC,hO,d8⟩;refine c_sr (ms rfl (ax rfl (zb (wp_ret ?_))));cases hs;exact ⟨_,a5,a6,a7,b1,fr_m 21 rfl,hC,d8,hO.top⟩

theorem Zv9 : ∀ w,(zeroValue 9).run Tryz.prog w = .ok (Value.string ByteArray.empty) w := fun _ => by kernel_rfl

theorem Bd75 : zK Tryz.prog 75 := zP Tryz.func75 (by kernel_rfl) rfl

theorem Bd74 : zK Tryz.prog 74 := zP Tryz.func74 (by kernel_rfl) rfl

theorem Sl119 : SlT Tryz.prog 119 9 := Tryz.underlying119

theorem Sz9 : SzT Tryz.prog 9 1 := ⟨_,rfl,rfl⟩

theorem Ag9 : AggT Tryz.prog 9 false := fun _ => by kernel_rfl

theorem Bd76 : zK Tryz.prog 76 := zP Tryz.func76 (by kernel_rfl) rfl

theorem Bd77 : zK Tryz.prog 77 := zP Tryz.func77 (by kernel_rfl) rfl

theorem Rw61 : RowT Tryz.prog 61 114 2 [(.slice none 0 0),(.slice none 0 0)] := ⟨Tryz.underlying61,⟨_,_,rfl,rfl,rfl,rfl,by decide⟩,rfl,by decide⟩

def Xt (M : Nat → Prop) (w0 : World) (r : (Int × (List ((List Int) × (List Int)))) × Bool) (a : Act) (w : World) : Prop :=
  ∃ σ rg2 ra0 rn0 rc0 rf0,a = fr 54 (ovl σ [(2,(pq rg2 0)),(3,(.bool r.2))]) ∧ BoxV w rg2 63 [(iv r.1.1),(sv ra0 rn0 rc0)] ∧ Chg [] w0 w ∧ (RT.os 114 (RT.pr (RT.os 3 ri) (RT.os 3 ri))).val M w (sv ra0 rn0 rc0) r.1.2 rf0 ∧ Own (Nw w0 []) (fun _ => True) w (rf0 ++ [])
abbrev mTx : List (ByteArray × ByteArray) := (mput (mput (mput (mput (mput (mput ([]) (ByteArray.mk #[109,97,108,99,101,118]) (ByteArray.mk #[48,49,49,61,48,59,48,48,49,61,49,59])) (ByteArray.mk #[109,97,106,111,114,105,116,121]) (ByteArray.mk #[48,48,49,61,48,59,48,49,48,61,48,59,49,48,48,61,48,59])) (ByteArray.mk #[109,105,110,111,114,105,116,121]) (ByteArray.mk #[48,48,49,61,49,59,48,49,48,61,49,59,49,48,48,61,49,59])) (ByteArray.mk #[112,105,120,108,101,121]) (ByteArray.mk #[48,49,49,61,48,59,48,49,48,61,48,59,48,48,49,61,49,59])) (ByteArray.mk #[99,111,109,109,117,116,97,116,105,118,101]) (ByteArray.mk #[48,48,61,48,59,48,49,61,49,48,59])) (ByteArray.mk #[119,101,97,107]) (ByteArray.mk #[48,48,48,61,48,59,48,48,49,61,48,49,48,59,48,49,48,61,49,48,48,59]))
def Ym (name : ByteArray) : Option ((Int × (List ((List Int) × (List Int)))) × Bool) :=
  (bif (!((mget mTx name).isSome)) then some ((0,[]),false) else (xk ((mget mTx name).getD ByteArray.empty) (ByteArray.mk #[59])).bind fun r15 =>
  (XM r15 (ByteArray.mk #[59])).bind fun r17 =>
  (forR (S := Int × (List ((List Int) × (List Int)))) (R := (Int × (List ((List Int) × (List Int)))) × Bool) (fun _ x60 s57 =>
  (wI x60 (ByteArray.mk #[61])).bind fun r69 =>
  (xT r69.1).bind fun r72 =>
  (xT r69.2.1).bind fun r75 =>
  (app s57.2 ([(r72,r75)])).bind fun y80 =>
  some (.nx ((r69.1.size : Int),y80))) 0 r17 (0,[])).bind fun o61 => after o61 (fun r_ => some r_) (fun s57 =>
  some ((s57.1,s57.2),true)))
theorem WH {M : Nat → Prop} {w : World}  (name : ByteArray) (hM : Hm w M) (hG : Glo 0 w) {r : (Int × (List ((List Int) × (List Int)))) × Bool} (hs : Ym name = some r) :
    Gives Tryz.prog 41 [(.string name)] w (fun v w' => ∃ ra0 rn0 rc0 rf0,v = (.tuple #[(.agg #[(iv r.1.1),(sv ra0 rn0 rc0)]),(.bool r.2)]) ∧ Chg [] w w' ∧ (RT.os 114 (RT.pr (RT.os 3 ri) (RT.os 3 ri))).val M w' (sv ra0 rn0 rc0) r.1.2 rf0 ∧ Own (Nw w []) (fun _ => True) w' (rf0 ++ [])) := by
 refine zx Tryz.func41 rfl Tryz.ntmps41 (nl rfl) ?_;obtain ⟨hO,hC⟩ := st0 hM;unfold Ym at hs;refine wp_k (K := (Xt M w r)) (by rintro _ _ ⟨σ,rg2,ra0,rn0,rc0,rf0,rfl,hbrg2,hrest⟩; exact WN Tryz.results41 (xu rfl (Zn Ag63 Sz63 hbrg2 [] _ [] rfl rfl (fun h => nomatch h))) (zH rfl) ⟨ra0,rn0,rc0,rf0,rfl,hrest⟩) (c_sr ?_);obtain ⟨d6,a5,i5,g7,g8,a0⟩ := zg w [(iv 0),(sv none 0 0)] 63;refine za (w' := d6) (pq a5 0) (Zy (by rw [i5,g7]; kernel_rfl)) ?_;have hC := hC.ext g8;have hO := hO.new1 g8 g7 a0.lt;refine ab rfl (zb (c_sr ?_));obtain ⟨i6,c2,i7,g9,e9,h0⟩ := zbz (enc := Value.string) (M := M) d6;refine za (w' := i6) (.map (some c2)) (by rw [i7,g9]; exact zdl) ?_;obtain ⟨a0,hC⟩ := xt2 e9 a0 hC;have hO := hO.new (X' := [c2]) e9 (fun q hq => by rw [List.mem_singleton.1 hq,g9]; exact Nat.le_refl _) nd1 h0.fpl;obtain ⟨i9,j0,f0,j1⟩ := Wq (P := Tryz.prog) (t := 117) (key := (ByteArray.mk #[109,97,108,99,101,118])) (x := (ByteArray.mk #[48,49,49,61,48,59,48,48,49,61,49,59])) Tryz.underlying117 Tryz.underlying9 h0;refine zS (w' := i9) (vO rfl rfl rfl j0) ?_;have a0 := a0.ap f0 hO zf mS;have hC := hC.st f0 hO zf;have hO := hO.ext f0;obtain ⟨j2,j3,f1,j4⟩ := Wq (P := Tryz.prog) (t := 117) (key := (ByteArray.mk #[109,97,106,111,114,105,116,121])) (x := (ByteArray.mk #[48,48,49,61,48,59,48,49,48,61,48,59,49,48,48,61,48,59])) Tryz.underlying117 Tryz.underlying9 j1;refine zS (w' := j2) (vO rfl rfl rfl j3) ?_;have a0 := a0.ap f1 hO zf mS;have hC := hC.st f1 hO zf;have hO := hO.ext f1;obtain ⟨j5,j6,f2,j7⟩ := Wq (P := Tryz.prog) (t := 117) (key := (ByteArray.mk #[109,105,110,111,114,105,116,121])) (x := (ByteArray.mk #[48,48,49,61,49,59,48,49,48,61,49,59,49,48,48,61,49,59])) Tryz.underlying117 Tryz.underlying9 j4;refine zS (w' := j5) (vO rfl rfl rfl j6) ?_;have a0 := a0.ap f2 hO zf mS;have hC := hC.st f2 hO zf;have hO := hO.ext f2;obtain ⟨j8,j9,f3,k0⟩ := Wq (P := Tryz.prog) (t := 117) (key := (ByteArray.mk #[112,105,120,108,101,121])) (x := (ByteArray.mk #[48,49,49,61,48,59,48,49,48,61,48,59,48,48,49,61,49,59])) Tryz.underlying117 Tryz.underlying9 j7;refine zS (w' := j8) (vO rfl rfl rfl j9) ?_;have a0 := a0.ap f3 hO zf mS;have hC := hC.st f3 hO zf;have hO := hO.ext f3;obtain ⟨k1,k2,f4,k3⟩ := Wq (P := Tryz.prog) (t := 117) (key := (ByteArray.mk #[99,111,109,109,117,116,97,116,105,118,101])) (x := (ByteArray.mk #[48,48,61,48,59,48,49,61,49,48,59])) Tryz.underlying117 Tryz.underlying9 k0;refine zS (w' := k1) (vO rfl rfl rfl k2) ?_;have a0 := a0.ap f4 hO zf mS;have hC := hC.st f4 hO zf;have hO := hO.ext f4;obtain ⟨h1,k4,f5,a7⟩ := Wq (P := Tryz.prog) (t := 117) (key := (ByteArray.mk #[119,101,97,107])) (x := (ByteArray.mk #[48,48,48,61,48,59,48,48,49,61,48,49,48,59,48,49,48,61,49,48,48,59])) Tryz.underlying117 Tryz.underlying9 k3;refine zS (w' := h1) (vO rfl rfl rfl k4) ?_;have a0 := a0.ap f5 hO zf mS;have hC := hC.st f5 hO zf;have hO := hO.ext f5;refine za (.map (some c2)) (zD rfl) (za (.map (some c2)) (zG rfl) (zb (c_sr (za (.map (some c2)) (zD rfl) (za (.string name) (zD rfl) (za (.tuple #[(.string ((mget mTx name).getD ByteArray.empty)),(.bool ((mget mTx name).isSome))]) (y_look2 (enc := Value.string) Tryz.underlying117 Tryz.underlying9 Zv9 (mo_at a7) rfl rfl) (za (.tuple #[(.string ((mget mTx name).getD ByteArray.empty)),(.bool ((mget mTx name).isSome))]) (zD rfl) (za (.string ((mget mTx name).getD ByteArray.empty)) (zE rfl (by kernel_rfl)) (za (.bool ((mget mTx name).isSome)) (zE rfl (by kernel_rfl)) (za (.string ((mget mTx name).getD ByteArray.empty)) (zG rfl) (ab rfl (zb (ze (c_sr (mb rfl (za _ (yc rfl) (zb ?_)))))))))))))))));rcases zm hs with ⟨f6,hs⟩ | ⟨f6,hs⟩
 ·refine zl (cb f6) (c_sr (za (.agg #[(iv 0),(sv none 0 0)]) (yj rfl (by kernel_rfl)) ?_));obtain ⟨h2,k5,f7,f8⟩ := zM (P := Tryz.prog) a0 [] [(iv 0),(sv none 0 0)] [] [(iv 0),(sv none 0 0)] rfl rfl (oc rfl);refine zS (w' := h2) (zL rfl rfl (k5 _ _ rfl Sz63)) ?_;have hO := hO.fr1;have a7 := a7.ma f7 hO zf (fun _ e => (zn (e)));have hC := hC.st f7 hO zf;have hO := hO.ext f7;have f8 : BoxV h2 a5 63 [(iv 0),(sv none 0 0)] := f8;refine ab rfl (zb (wp_ret ?_));cases hs;have hO := hO.drop.drop.nil;exact ⟨_,a5,none,0,0,[],fr_m 54 rfl,f8,hC,xW,hO.top⟩
 refine zk (cb f6) (wp_skip (c_sr (za (.agg #[(iv 0),(sv none 0 0)]) (yj rfl (by kernel_rfl)) ?_)));obtain ⟨k6,a3,k7,h3,d7,h4⟩ := zg h1 [(iv 0),(sv none 0 0)] 63;refine za (w' := k6) (pq a3 0) (Zy (by rw [k7,h3]; kernel_rfl)) ?_;obtain ⟨a0,a7,hC⟩ := xt3 d7 a0 a7 hC;have hO := hO.new1 d7 h3 h4.lt;obtain ⟨h5,k8,d8,a1⟩ := zM (P := Tryz.prog) h4 [] [(iv 0),(sv none 0 0)] [] [(iv 0),(sv none 0 0)] rfl rfl (oc rfl);refine zS (w' := h5) (zL rfl rfl (k8 _ _ rfl Sz63)) ?_;have a0 := a0.ap d8 hO zf (zd mS);have a7 := a7.ma d8 hO zf (fun _ e => (zn (e)));have hC := hC.st d8 hO zf;have hO := hO.ext d8;have a1 : BoxV h5 a3 63 [(iv 0),(sv none 0 0)] := a1;refine zb (ze (c_sr (za (.string ((mget mTx name).getD ByteArray.empty)) (zD rfl) ?_)));obtain ⟨r15,k9,hs⟩ := bq hs;refine zC Bd75 rfl (WR (M := M) ((mget mTx name).getD ByteArray.empty) (ByteArray.mk #[59])  hO.fut k9) ?_;rintro _ n3 ⟨rfl,c9⟩;obtain ⟨a0,a7,a1,hC,hO⟩ := xt5 c9 a0 a7 a1 hC hO;obtain ⟨r17,l0,hs⟩ := bq hs;refine zC Bd74 rfl (uQ (M := M) r15 (ByteArray.mk #[59])  hO.fut (hG.chg hC) l0) ?_;rintro _ n4 ⟨f9,g0,g1,b2,rfl,d0,a2,l1⟩;obtain ⟨a0,a7,a1,hC⟩ := xt4 d0 a0 a7 a1 hC;have hO := Own.join0 hO d0 l1;have hO := hO.perm (R := b2 ++ ([a3] ++ ([c2] ++ ([a5] ++ [])))) (by simp);refine za _ (zt Sl119 (yD a2) rfl) (mi rfl (zb ?_));have hO := hO.fr2.drop;obtain ⟨o61,l2,hs⟩ := bq hs;refine wp_block (Yl (id := 0) (I := fun i_ xs_ s57 a a4 => ∃ a8 : Nat,i_ = (a8 : Int) ∧ List.drop a8 r17 = xs_ ∧ (∃ σ b3 b4 b5 b6,a = fr 54 (ovl σ [(2,(pq a5 0)),(7,(pq a3 0)),(27,(sv f9 g0 g1)),(28,(iv (r17.length : Int))),(29,(iv (a8 : Int)))]) ∧ Chg [] w a4 ∧ Own (Nw w []) M a4 (b6 ++ (b2 ++ ([a3] ++ ([a5] ++ [])))) ∧ BoxV a4 a5 63 [(iv 0),(sv none 0 0)] ∧ BoxV a4 a3 63 [(iv s57.1),(sv b3 b4 b5)] ∧ (RT.os 9 RT.str).val M a4 (sv f9 g0 g1) r17 b2 ∧ (RT.os 114 (RT.pr (RT.os 3 ri) (RT.os 3 ri))).val M a4 (sv b3 b4 b5) s57.2 b6)) (J := fun s57 a a4 => ∃ σ b7 b8 b9 d9,a = fr 54 (ovl σ [(2,(pq a5 0)),(7,(pq a3 0))]) ∧ Chg [] w a4 ∧ Own (Nw w []) M a4 (d9 ++ (b2 ++ ([a3] ++ ([a5] ++ [])))) ∧ BoxV a4 a5 63 [(iv 0),(sv none 0 0)] ∧ BoxV a4 a3 63 [(iv s57.1),(sv b7 b8 b9)] ∧ (RT.os 9 RT.str).val M a4 (sv f9 g0 g1) r17 b2 ∧ (RT.os 114 (RT.pr (RT.os 3 ri) (RT.os 3 ri))).val M a4 (sv b7 b8 b9) s57.2 d9) (K := (Xt M w)) ?_ ?_ r17 0 (0,[]) o61 _ _ ?_ l2 ?_)
 ·rintro _ s57 a a4 ⟨a8,rfl,hd,σ,b3,b4,b5,b6,rfl,hC,hO,a0,a1,a2,a6⟩;have hlt := ZJ hd;refine c_sr (za _ (zA rfl rfl) (zb (ze (zk (df hlt) (wp_exit ?_)))));have hO := hO.fr3.fr3.fr3.fr3;exact ⟨rfl,_,b3,b4,b5,b6,fr_m 54 rfl,hC,hO,a0,a1,a2,a6⟩
 ·rintro _ x60 xs_ s57 o61 a a4 ⟨a8,rfl,hd,σ,b3,b4,b5,b6,rfl,hC,hO,a0,a1,a2,a6⟩ hs;have hlt := Zt hd;have l3 := Zk hd;refine c_sr (za _ (zA rfl rfl) (zb (ze (zl (dt hlt) (wp_skip (ze (wp_block (c_sr ?_))))))));obtain ⟨l4,n5,n6,n7,l5,l6,n8⟩ := ZI Sl119 Sz9 a2 l3;refine za _ (ip l5 rfl rfl) (za (.string x60) (zo rfl ((zcv Ag9 Sz9 l6) _ (Chg.refl _ _))) (za (.string x60) (zG rfl) (zb (c_sr (za (.string x60) (zD rfl) ?_)))));obtain ⟨r69,l7,hs⟩ := bq hs;refine zC Bd76 rfl (zal (M := M) x60 (ByteArray.mk #[61])  hO.fut (hG.chg hC) l7) ?_;rintro _ h6 ⟨rfl,c3⟩;obtain ⟨a0,a1,a2,a6,hC,hO⟩ := xt6 c3 a0 a1 a2 a6 hC hO;refine za (.tuple #[(.string r69.1),(.string r69.2.1),(.bool r69.2.2)]) (zD rfl) (za (.string r69.1) (zE rfl (by kernel_rfl)) (za (.string r69.2.1) (zE rfl (by kernel_rfl)) (za (.bool r69.2.2) (zE rfl (by kernel_rfl)) (za (.string r69.1) (zG rfl) (za (.string r69.2.1) (zG rfl) (ab rfl (zb (ze (Za [8,10] Mx rfl ?_)))))))));have c0 := Chg.drew h6;generalize World.drew h6 = l8 at c0 ⊢;obtain ⟨a0,a1,a2,a6,hC,hO⟩ := xt6 c0 a0 a1 a2 a6 hC hO;have hS := Chg.refl [] l8;refine xq 0 (pq a3 1) rfl (zj rfl xr) hS (xl 1 rfl (ldx rfl Ag61 Sz61 a1 rfl) hS (xq 2 (.string r69.1) rfl (zD rfl) hS (xq 4 (.string r69.2.1) rfl (zD rfl) hS (zN (i := 3) (by kernel_rfl) ?_))));obtain ⟨r72,l9,hs⟩ := bq hs;refine zV (b := false) rfl Bd77 rfl (WB (M := M) r69.1  hO.fut l9) rfl (by rintro _ _ _ ⟨e0,e1,e2,c4,rfl,b1,c5,h7⟩; exact hS.ext b1) ?_;rintro _ n9 ⟨e0,e1,e2,c4,rfl,b1,c5,h7⟩;obtain ⟨a0,a1,a2,a6,hC⟩ := xt5 b1 a0 a1 a2 a6 hC;have hO := Own.join0 hO b1 h7;have hO := hO.perm (R := c4 ++ (b6 ++ (b2 ++ ([a3] ++ ([a5] ++ []))))) (by simp);have hS := hS.ext b1;refine zN (i := 5) (by kernel_rfl) ?_;obtain ⟨r75,m0,hs⟩ := bq hs;refine zV (b := false) rfl Bd77 rfl (WB (M := M) r69.2.1  hO.fut m0) rfl (by rintro _ _ _ ⟨e3,e4,e5,d1,rfl,a9,e6,h8⟩; exact hS.ext a9) ?_;rintro _ m1 ⟨e3,e4,e5,d1,rfl,a9,e6,h8⟩;obtain ⟨a0,a1,a2,a6,c5,hC⟩ := xt6 a9 a0 a1 a2 a6 c5 hC;have hO := Own.join0 hO a9 h8;have hO := hO.perm (R := d1 ++ (c4 ++ (b6 ++ (b2 ++ ([a3] ++ ([a5] ++ [])))))) (by simp);have hS := hS.ext a9;refine xq 6 (.agg #[(sv e0 e1 e2),(sv e3 e4 e5)]) rfl (yj rfl (by kernel_rfl)) hS (zN (i := 7) (by kernel_rfl) ?_);obtain ⟨h9,e7,m2,i0,b0,i1⟩ := zg m1 [(sv e0 e1 e2),(sv e3 e4 e5)] 114;refine zO (w' := h9) (b := false) (sv (some ⟨e7,0,none⟩) 1 1) rfl (zy rfl (by rw [m2,i0]; kernel_rfl)) rfl (fun _ => hS.ext b0) ?_;obtain ⟨a0,a1,a2,a6,c5,e6,hC⟩ := xt7 b0 a0 a1 a2 a6 c5 e6 hC;have hO := (hO.fr1.new1 b0 i0 i1.lt).perm (R := (e7 :: ((c4 ++ d1) ++ [])) ++ (b6 ++ (b2 ++ ([a3] ++ ([a5] ++ []))))) (by simp);have m3 := hO.nd;have g2 := zQ (r := (RT.pr (RT.os 3 ri) (RT.os 3 ri))) (M := M) (css := [[(sv e0 e1 e2),(sv e3 e4 e5)]]) (fps := [(c4 ++ d1 : List Nat)]) (xs := ([(r72,r75)] : List ((List Int) × (List Int)))) i1 ⟨⟨_,_,_,_,rfl,rfl,(Zc c5),(Zc e6)⟩,trivial⟩ (nl rfl) m3;have g2 : (RT.os 114 (RT.pr (RT.os 3 ri) (RT.os 3 ri))).val M h9 (sv (some ⟨e7,0,none⟩) 1 1) [(r72,r75)] (e7 :: ((c4 ++ d1) ++ [])) := g2;have hS := hS.ext b0;refine zN (i := 8) (by kernel_rfl) ?_;obtain ⟨y80,m4,hs⟩ := bq hs;have hO := hO.fr1;obtain ⟨c6,c7,c8,m5,m6,m7,d2,m8,c1⟩ := Zg Rw61 m4 a6 g2 hO.inM (fun g hg hq => hO.apart g hq (zn hg));have e8 := zw a6;refine zO (w' := m5) (b := true) (sv c6 c7 c8) rfl (zJ rfl rfl (m7 _)) rfl (fun h => nomatch h) ?_;have hO := hO.fr1.fr1;have a0 := a0.ap d2 hO e8 (zd (zd (zd mS)));have a1 := a1.ap d2 hO e8 (zd (zd mS));have a2 := a2.ma d2 hO e8 (fun _ e => (zd (zn (e))));have hC := hC.st d2 hO e8;have hO := hO.eat d2 m8 (zu c1) c1.fpl;refine x_p 9 (pq a3 1) rfl (by kernel_rfl) (fun _ => zj rfl xr) (fun h => nomatch h) (zN (i := 10) (by kernel_rfl) ?_);obtain ⟨i2,m9,d3,g3⟩ := zM (P := Tryz.prog) a1 [(iv s57.1)] [(sv b3 b4 b5)] [] [(sv c6 c7 c8)] rfl rfl (oc rfl);refine YQ (w' := i2) (b := true) rfl (zL rfl rfl (m9 _ _ rfl Sz61)) rfl (fun h => nomatch h) ?_;have hO := hO.fr2;have a0 := a0.ap d3 hO zf (zd (zd mS));have a2 := a2.ma d3 hO zf (fun _ e => (zd (zn (e))));have c1 := c1.ma d3 hO zf (fun _ e => (zn (e)));have hC := hC.st d3 hO zf;have hO := hO.ext d3;have g3 : BoxV i2 a3 63 [(iv s57.1),(sv c6 c7 c8)] := g3;refine xe ?_;clear hS;refine zh (za (.string r69.1) (zD rfl) (za (iv (r69.1.size : Int)) (zdf Tryz.underlying9 rfl) (za (pq a3 0) (zj rfl wN) ?_)));obtain ⟨i3,n0,d4,g4⟩ := zM (P := Tryz.prog) g3 [] [(iv s57.1)] [(sv c6 c7 c8)] [(iv (r69.1.size : Int))] rfl rfl (oc rfl);refine zS (w' := i3) (zL rfl rfl (n0 _ _ rfl Sz3)) ?_;have a0 := a0.ap d4 hO zf (zd (zd mS));have a2 := a2.ma d4 hO zf (fun _ e => (zd (zn (e))));have c1 := c1.ma d4 hO zf (fun _ e => (zn (e)));have hC := hC.st d4 hO zf;have hO := hO.ext d4;have g4 : BoxV i3 a3 63 [(iv (r69.1.size : Int)),(sv c6 c7 c8)] := g4;refine zb (zh (za _ (yad rfl rfl) (mi rfl (zb ?_))));cases hs;have hO := hO.fr3.fr1.fr3.fr3;exact ⟨_,rfl,Zb hd,_,c6,c7,c8,m6,zF 54 ⟨rfl,rfl,rfl,rfl,congrArg (Value.int .i64) (ZZ hlt (Int.natCast_nonneg _) (zbG a2)),trivial⟩,hC,hO,a0,g4,a2,c1⟩
 ·have hO := hO.fr2.fr2.fr2.nil;exact ⟨0,rfl,rfl,_,none,0,0,[],fr_m 54 rfl,hC,hO,a0,a1,a2,xW⟩
 cases o61 with
 | nx _ => trivial
 | rt r_ =>
  have hs := zr hs;intro n1 d6 hK;cases hs;exact hK
 | br s57 =>
  have hs := zq hs;rintro n1 a4 ⟨σ,b7,b8,b9,d9,rfl,hC,hO,a0,a1,a2,g5⟩;refine c_sr (za _ (ldw rfl Ag63 a1 Sz63) ?_);obtain ⟨i4,n2,d5,g6⟩ := zM (P := Tryz.prog) a0 [] [(iv 0),(sv none 0 0)] [] [(iv s57.1),(sv b7 b8 b9)] rfl rfl (oc rfl);refine zS (w' := i4) (zL rfl rfl (n2 _ _ rfl Sz63)) ?_;have hO := hO.fr3;have a1 := a1.ap d5 hO zf (zd (zd mS));have a2 := a2.ma d5 hO zf (fun _ e => (zd (zn (e))));have g5 := g5.ma d5 hO zf (fun _ e => (zn (e)));have hC := hC.st d5 hO zf;have hO := hO.ext d5;have g6 : BoxV i4 a5 63 [(iv s57.1),(sv b7 b8 b9)] := g6;refine ab rfl (zb (wp_ret ?_));cases hs;have hO := hO.drop.fr1.drop.fr1.drop;exact ⟨_,a5,b7,b8,b9,d9,fr_m 54 rfl,g6,hC,g5,hO.top⟩

def WA (M : Nat → Prop) (w0 : World) (r : Bool) (a : Act) (w : World) : Prop :=
  ∃ σ,a = fr 26 (ovl σ [(4,(.bool r))]) ∧ Chg [] w0 w
def XL (a_ : List Int) (b : List Int) : Option (Bool) :=
  (bif ((a_.length : Int) != (b.length : Int)) then some false else (forC (S := Unit) (R := Bool) (fun k11 s9 =>
  (idx a_ k11).bind fun x15 =>
  (idx b k11).bind fun x17 =>
  (bif (x17 != x15) then some (.rt false) else some (.nx ()))) 0 (a_.length : Int) ()).bind fun o13 => after o13 (fun r_ => some r_) (fun s9 =>
  some true))
theorem uC (a_ : List Int) (b : List Int) (h0 : rl.val M w (sv pa0 pn0 pc0) a_ []) (h1 : rl.val M w (sv pa1 pn1 pc1) b []) (hM : Hm w M) {r : Bool} (hs : XL a_ b = some r) :
    Gives Tryz.prog 126 [(sv pa0 pn0 pc0),(sv pa1 pn1 pc1)] w (fun v w' => v = (.bool r) ∧ Chg [] w w') := by
 refine zx Tryz.func126 rfl Tryz.ntmps126 (nl rfl) ?_;obtain ⟨hO,hC⟩ := st0 hM;unfold XL at hs;refine wp_k (K := (WA M w r)) (by rintro _ _ ⟨σ,rfl,hrest⟩; exact Zd Tryz.results126 (zH rfl) ⟨rfl,hrest⟩) (c_sr (ab rfl (zb (ze (c_sr (ms rfl (za _ (zt Sl48 (zB h0) rfl) (ms rfl (za _ (zt Sl48 (zB h1) rfl) (za (.bool ((a_.length : Int) != (b.length : Int))) (Xp rfl rfl) (zb ?_)))))))))));rcases zm hs with ⟨a1,hs⟩ | ⟨a1,hs⟩
 ·refine zl (cb a1) (c_sr (ab rfl (zb (wp_ret ?_))));cases hs;exact ⟨_,fr_m 26 rfl,hC⟩
 refine zk (cb a1) (wp_skip (ze (c_sr (ms rfl (za _ (zt Sl48 (zB h0) rfl) (mi rfl (zb ?_)))))));obtain ⟨o13,a4,hs⟩ := bq hs;refine wp_block (zU (id := 0) (a_.length : Int) (I := fun k11 s9 a a0 => ∃ σ,a = fr 26 (ovl σ [(1,(sv pa1 pn1 pc1)),(12,(sv pa0 pn0 pc0)),(13,(iv (a_.length : Int))),(14,(iv k11))]) ∧ Chg [] w a0 ∧ Own (Nw w []) M a0 [] ∧ rl.val M a0 (sv pa0 pn0 pc0) a_ [] ∧ rl.val M a0 (sv pa1 pn1 pc1) b []) (J := fun s9 a a0 => ∃ σ,a = fr 26 (ovl σ []) ∧ Chg [] w a0 ∧ Own (Nw w []) M a0 [] ∧ rl.val M a0 (sv pa0 pn0 pc0) a_ [] ∧ rl.val M a0 (sv pa1 pn1 pc1) b []) (K := (WA M w)) ?_ ?_ 0 () o13 _ _ ?_ a4 ?_)
 ·rintro k11 s9 a a0 ⟨σ,rfl,hC,hO,h0,h1⟩ hlt;refine c_sr (za _ (zA rfl rfl) (zb (ze (zk (df hlt) (wp_exit ?_)))));exact ⟨rfl,_,zF 26 trivial,hC,hO,h0,h1⟩
 ·rintro k11 s9 o13 a a0 ⟨σ,rfl,hC,hO,h0,h1⟩ hlt hw hs;refine c_sr (za _ (zA rfl rfl) (zb (ze (zl (dt hlt) (wp_skip (ze (wp_block (c_sr (mi rfl ?_)))))))));obtain ⟨x15,a5,hs⟩ := bq hs;obtain ⟨a6,a7,a8,a9⟩ := zI Sl48 Sz3 h0 a5;refine za _ (ip a8 rfl rfl) (za (iv x15) (zo rfl ((zp Ag3 Sz3 a9) _ (Chg.refl _ _))) (ai rfl (ai rfl (zb (c_sr (ms rfl (mi rfl ?_)))))));obtain ⟨x17,b0,hs⟩ := bq hs;obtain ⟨b1,b2,b3,b4⟩ := zI Sl48 Sz3 h1 b0;refine za _ (ip b3 rfl rfl) (za (iv x17) (zo rfl ((zp Ag3 Sz3 b4) _ (Chg.refl _ _))) (mi rfl (za (.bool (x17 != x15)) (Xp rfl rfl) (zb ?_))));rcases zm hs with ⟨a2,hs⟩ | ⟨a2,hs⟩
  ·refine zl (cb a2) (c_sr (ab rfl (zb (wp_ret ?_))));cases hs;exact ⟨_,fr_m 26 rfl,hC⟩
  refine zk (cb a2) (wp_skip (zh (za _ (yad rfl rfl) (mi rfl (zb ?_)))));cases hs;exact ⟨_,zF 26 ⟨rfl,rfl,rfl,congrArg (Value.int .i64) hw,trivial⟩,hC,hO,h0,h1⟩
 ·exact ⟨_,fr_m 26 rfl,hC,hO,h0,h1⟩
 cases o13 with
 | nx _ => trivial
 | rt r_ =>
  have hs := zr hs;intro b5 a3 hK;cases hs;exact hK
 | br s9 =>
  have hs := zq hs;rintro b5 a0 ⟨σ,rfl,hC,hO,h0,h1⟩;refine c_sr (ab rfl (zb (wp_ret ?_)));cases hs;exact ⟨_,fr_m 26 rfl,hC⟩

theorem Bd126 : zK Tryz.prog 126 := zP Tryz.func126 (by kernel_rfl) rfl

def wX (M : Nat → Prop) (w0 : World) (r : Int) (a : Act) (w : World) : Prop :=
  ∃ σ,a = fr 19 (ovl σ [(4,(iv r))]) ∧ Chg [] w0 w
def ye (list : List (List Int)) (p : List Int) : Option (Int) :=
  (forC (S := Unit) (R := Int) (fun k12 s10 =>
  (idx list k12).bind fun x16 =>
  (XL p x16).bind fun r21 =>
  (bif r21 then some (.rt k12) else some (.nx ()))) 0 (list.length : Int) ()).bind fun o14 => after o14 (fun r_ => some r_) (fun s10 =>
  some (-1))
theorem XA (list : tM) (p : List Int) (h0 : rm.val M w (sv pa0 pn0 pc0) list []) (h1 : rl.val M w (sv pa1 pn1 pc1) p []) (hM : Hm w M) {r : Int} (hs : ye list p = some r) :
    Gives Tryz.prog 109 [(sv pa0 pn0 pc0),(sv pa1 pn1 pc1)] w (fun v w' => v = (iv r) ∧ Chg [] w w') := by
 refine zx Tryz.func109 rfl Tryz.ntmps109 (nl rfl) ?_;obtain ⟨hO,hC⟩ := st0 hM;unfold ye at hs;refine wp_k (K := (wX M w r)) (by rintro _ _ ⟨σ,rfl,hrest⟩; exact Zd Tryz.results109 (zH rfl) ⟨rfl,hrest⟩) (c_sr (ai rfl (zb (ze (c_sr (ms rfl (za _ (zt Sl56 (zB h0) rfl) (mi rfl (zb ?_)))))))));obtain ⟨o14,a8,hs⟩ := bq hs;refine wp_block (zU (id := 0) (list.length : Int) (I := fun k12 s10 a a0 => ∃ σ,a = fr 19 (ovl σ [(1,(sv pa1 pn1 pc1)),(7,(sv pa0 pn0 pc0)),(8,(iv (list.length : Int))),(9,(iv k12))]) ∧ Chg [] w a0 ∧ Own (Nw w []) M a0 [] ∧ rm.val M a0 (sv pa0 pn0 pc0) list [] ∧ rl.val M a0 (sv pa1 pn1 pc1) p []) (J := fun s10 a a0 => ∃ σ,a = fr 19 (ovl σ []) ∧ Chg [] w a0 ∧ Own (Nw w []) M a0 [] ∧ rm.val M a0 (sv pa0 pn0 pc0) list [] ∧ rl.val M a0 (sv pa1 pn1 pc1) p []) (K := (wX M w)) ?_ ?_ 0 () o14 _ _ ?_ a8 ?_)
 ·rintro k12 s10 a a0 ⟨σ,rfl,hC,hO,h0,h1⟩ hlt;refine c_sr (za _ (zA rfl rfl) (zb (ze (zk (df hlt) (wp_exit ?_)))));exact ⟨rfl,_,zF 19 trivial,hC,hO,h0,h1⟩
 ·rintro k12 s10 o14 a a0 ⟨σ,rfl,hC,hO,h0,h1⟩ hlt hw hs;refine c_sr (za _ (zA rfl rfl) (zb (ze (zl (dt hlt) (wp_skip (ze (wp_block (c_sr (mi rfl ?_)))))))));obtain ⟨x16,a9,hs⟩ := bq hs;obtain ⟨b0,b1,b2,b3⟩ := zI Sl56 Sz48 h0 a9;refine za _ (ip b2 rfl rfl) ?_;obtain ⟨b7,b4,a2⟩ := zT Ag48 Sz48 (fun _ => rfl) b3;obtain ⟨a3,a4,a5,rfl⟩ := Zw a2;refine za (sv a3 a4 a5) (zo rfl (b4 _ (Chg.refl _ _))) (ai rfl (ax rfl (zb (c_sr (ms rfl (ms rfl ?_))))));obtain ⟨r21,b5,hs⟩ := bq hs;refine zC Bd126 rfl (uC (M := M) p x16 h1 a2 hO.fut b5) ?_;rintro _ b8 ⟨rfl,a1⟩;obtain ⟨h0,h1,a2,hC,hO⟩ := xt5 a1 h0 h1 a2 hC hO;refine zb ?_;rcases zm hs with ⟨a6,hs⟩ | ⟨a6,hs⟩
  ·refine zl (cb a6) (c_sr (mi rfl (ai rfl (zb (wp_ret ?_)))));cases hs;exact ⟨_,fr_m 19 rfl,hC⟩
  refine zk (cb a6) (wp_skip (zh (za _ (yad rfl rfl) (mi rfl (zb ?_)))));cases hs;exact ⟨_,zF 19 ⟨rfl,rfl,rfl,congrArg (Value.int .i64) hw,trivial⟩,hC,hO,h0,h1⟩
 ·exact ⟨_,fr_m 19 rfl,hC,hO,h0,h1⟩
 cases o14 with
 | nx _ => trivial
 | rt r_ =>
  have hs := zr hs;intro b6 a7 hK;cases hs;exact hK
 | br s10 =>
  have hs := zq hs;rintro b6 a0 ⟨σ,rfl,hC,hO,h0,h1⟩;refine c_sr (ai rfl (zb (wp_ret ?_)));cases hs;exact ⟨_,fr_m 19 rfl,hC⟩

theorem Ag114 : AggT Tryz.prog 114 true := fun _ => by kernel_rfl

theorem Bd109 : zK Tryz.prog 109 := zP Tryz.func109 (by kernel_rfl) rfl

def Wo (M : Nat → Prop) (w0 : World) (vg0 : Nat) (vg1 : Nat) (pa0 : OA) (pn0 pc0 : Nat) (va0x1 : OA) (vn0x1 vc0x1 : Nat) (va1x0 : OA) (vn1x0 vc1x0 : Nat) (vf1x0 : List Nat) (p : List Int) (b0 : Int × (List ((List Int) × (List Int)))) (b1 : tM) (r : tM) (a : Act) (w : World) : Prop :=
  ∃ σ oa1x0 on1x0 oc1x0 of1x0,a = fr 20 (ovl σ []) ∧ Chg ([vg1] ++ (vf1x0 ++ [])) w0 w ∧ BoxV w vg1 56 [(sv oa1x0 on1x0 oc1x0)] ∧ (RT.os 48 (RT.os 3 ri)).val M w (sv oa1x0 on1x0 oc1x0) r of1x0 ∧ Own (Nw w0 ([vg1] ++ (vf1x0 ++ []))) (fun _ => True) w ([vg1] ++ (of1x0 ++ []))
def yT (p : List Int) (b0 : Int × (List ((List Int) × (List Int)))) (b1 : (List (List Int))) : Option ((List (List Int))) :=
  ((bif ((p.length : Int) == b0.1) then (ye b1 p).bind fun r11 =>
  some (decide (r11 < 0)) else some false)).bind fun s6 =>
  (bif s6 then (YS p).bind fun r15 =>
  (app b1 ([r15])).bind fun y20 =>
  some y20 else some b1)
theorem Xl {vg0 : Nat} {vg1 : Nat} {va0x1 : OA} {vn0x1 vc0x1 : Nat} {va1x0 : OA} {vn1x0 vc1x0 : Nat} {vf1x0 : List Nat} (p : List Int) (b0 : Int × (List ((List Int) × (List Int)))) (b1 : tM) (h0 : rl.val M w (sv pa0 pn0 pc0) p []) (hb0 : RBox M w vg0 63 [(iv b0.1),(sv va0x1 vn0x1 vc0x1)]) (hl0x1 : (RT.rs (RT.pr rl rl)).val M w (sv va0x1 vn0x1 vc0x1) b0.2 []) (hb1 : BoxV w vg1 56 [(sv va1x0 vn1x0 vc1x0)]) (hl1x0 : (RT.os 48 (RT.os 3 ri)).val M w (sv va1x0 vn1x0 vc1x0) b1 vf1x0) (hI : Own (Nw w ([vg1] ++ (vf1x0 ++ []))) M w ([vg1] ++ (vf1x0 ++ []))) (hM : Hm w M) {r : tM} (hs : yT p b0 b1 = some r) :
    Gives Tryz.prog 108 [(sv pa0 pn0 pc0),(pq vg0 0),(pq vg1 0)] w (fun v w' => ∃ oa1x0 on1x0 oc1x0 of1x0,v = (.tuple #[]) ∧ Chg ([vg1] ++ (vf1x0 ++ [])) w w' ∧ BoxV w' vg1 56 [(sv oa1x0 on1x0 oc1x0)] ∧ (RT.os 48 (RT.os 3 ri)).val M w' (sv oa1x0 on1x0 oc1x0) r of1x0 ∧ Own (Nw w ([vg1] ++ (vf1x0 ++ []))) (fun _ => True) w' ([vg1] ++ (of1x0 ++ []))) := by
 refine zx Tryz.func108 rfl Tryz.ntmps108 (nl rfl) ?_;have hO := hI;have hC := Chg.refl ([vg1] ++ (vf1x0 ++ [])) w;unfold yT at hs;refine wp_mono (Q := WM (Wo M w vg0 vg1 pa0 pn0 pc0 va0x1 vn0x1 vc0x1 va1x0 vn1x0 vc1x0 vf1x0 p b0 b1 r)) ?_ (fun e a e4 h => ?_);rotate_left
 ·cases e
  case ret =>
   obtain ⟨σ,oa1x0,on1x0,oc1x0,of1x0,rfl,hrest⟩ := h;exact uA Tryz.results108  ⟨oa1x0,on1x0,oc1x0,of1x0,rfl,hrest⟩
  case normal =>
   obtain ⟨σ,oa1x0,on1x0,oc1x0,of1x0,rfl,hrest⟩ := h;exact ur Tryz.results108  ⟨oa1x0,on1x0,oc1x0,of1x0,rfl,hrest⟩
  all_goals exact (h : False).elim
 refine ze ?_;obtain ⟨s6,d0,hs⟩ := bq hs;refine yI (I := fun a a8 => ∃ σ,a = fr 20 (ovl σ [(0,(sv pa0 pn0 pc0)),(2,(pq vg1 0)),(14,(.bool s6))]) ∧ Chg [] w a8) ?_ ?_
 ·replace hs := d0;have hMid := Chg.refl [] w;refine zh (ms rfl (za _ (zt Sl48 (zB h0) rfl) (za (pq vg0 0) (zj rfl wN) (za _ (ld rfl Ag3 Sz3 hb0.1 rfl) (za (.bool ((p.length : Int) == b0.1)) (xn rfl rfl) (mb rfl ?_))))));rcases zm hs with ⟨a0,hs⟩ | ⟨a0,hs⟩
  ·refine py 9 _ (cb a0) (ld rfl Ag56 Sz56 hb1 rfl) (py 9 (sv pa0 pn0 pc0) (cb a0) (zD rfl) ?_);have hO := hO.fr1;obtain ⟨r11,d1,hs⟩ := bq hs;refine Xm (tg := 9) (by kernel_rfl) (cb a0) Bd109 rfl (XA (M := (Less M vf1x0)) b1 p (((Frz.os (Frz.os Frz.int))).val hl1x0 Less.sub Less.not) (h0.sub Less.sub) hO.less.fut d1) ?_;rintro _ e5 ⟨rfl,a1⟩;obtain ⟨h0,hl0x1,hb0,hl1x0,hb1,hMid,hC,hO⟩ := xt8 a1 h0 hl0x1 hb0 hl1x0 hb1 hMid hC hO;refine py 9 _ (cb a0) (zA rfl rfl) (za _ (ptb (cb a0) rfl) (zb ?_));cases hs;exact ⟨_,fr_m 20 rfl,hMid⟩
  refine pn 9 (cb a0) (pn 9 (cb a0) (pn 9 (cb a0) (pn 9 (cb a0) (za _ (pfb (cb a0) rfl) (zb ?_)))));cases hs;exact ⟨_,fr_m 20 rfl,hMid⟩
 rintro e6 a8 ⟨σ,rfl,a5⟩;obtain ⟨h0,hl1x0,hb1,hC,hO⟩ := xt5 a5 h0 hl1x0 hb1 hC hO;rcases zm hs with ⟨b8,hs⟩ | ⟨b8,hs⟩
 ·refine zl (cb b8) (Za [4,5] Mx rfl ?_);have a4 := Chg.drew a8;generalize World.drew a8 = d2 at a4 ⊢;obtain ⟨h0,hl1x0,hb1,hC,hO⟩ := xt5 a4 h0 hl1x0 hb1 hC hO;have hS := Chg.refl [] d2;refine xl 0 rfl (ldx rfl Ag56 Sz56 hb1 rfl) hS (xms 1 rfl rfl hS (zN (i := 2) (by kernel_rfl) ?_));obtain ⟨r15,d3,hs⟩ := bq hs;refine zV (b := false) rfl Bd99 rfl (Wm (M := M) p h0 hO.fut d3) rfl (by rintro _ _ _ ⟨b9,c0,c1,a6,rfl,a2,a9,d4,c5⟩; exact hS.ext a2) ?_;rintro _ d5 ⟨b9,c0,c1,a6,rfl,a2,a9,d4,c5⟩;obtain ⟨h0,hl1x0,hb1,hC⟩ := xt4 a2 h0 hl1x0 hb1 hC;have hO := Own.join0 hO a2 c5;have hO := hO.perm (R := a6 ++ ([vg1] ++ (vf1x0 ++ []))) (by simp);have hS := hS.ext a2;refine zN (i := 3) (by kernel_rfl) ?_;obtain ⟨c6,b2,d6,c7,a3,c8⟩ := zg d5 [(sv b9 c0 c1)] 48;refine zO (w' := c6) (b := false) (sv (some ⟨b2,0,none⟩) 1 1) rfl (zy rfl (by rw [d6,c7]; kernel_rfl)) rfl (fun _ => hS.ext a3) ?_;obtain ⟨h0,hl1x0,hb1,a9,hC⟩ := xt5 a3 h0 hl1x0 hb1 a9 hC;have hO := (hO.new1 a3 c7 c8.lt).perm (R := (b2 :: ((a6) ++ [])) ++ ([vg1] ++ (vf1x0 ++ []))) (by simp);have d7 := hO.nd;have c2 := zQ (r := (RT.os 3 ri)) (M := M) (css := [[(sv b9 c0 c1)]]) (fps := [(a6 : List Nat)]) (xs := ([r15] : tM)) c8 ⟨(Zc a9),trivial⟩ (nl rfl) d7;have c2 : (RT.os 48 (RT.os 3 ri)).val M c6 (sv (some ⟨b2,0,none⟩) 1 1) [r15] (b2 :: ((a6) ++ [])) := c2;have hS := hS.ext a3;refine zN (i := 4) (by kernel_rfl) ?_;obtain ⟨y20,d8,hs⟩ := bq hs;have hO := hO.fr2;obtain ⟨b3,b4,b5,d9,e0,e1,b6,e2,a7⟩ := Zg Rw56 d8 hl1x0 c2 hO.inM (fun g hg hq => hO.apart g hq (zn hg));have c3 := zw hl1x0;refine zO (w' := d9) (b := true) (sv b3 b4 b5) rfl (zJ rfl rfl (e1 _)) rfl (fun h => nomatch h) ?_;have hO := hO.fr1.fr1;have h0 := h0.mt b6 hO c3;have hb1 := hb1.ap b6 hO c3 (zd mS);have hC := hC.st b6 hO c3;have hO := hO.eat b6 e2 (zu a7) a7.fpl;refine zN (i := 5) (by kernel_rfl) ?_;obtain ⟨c9,e3,b7,c4⟩ := zM (P := Tryz.prog) hb1 [] [(sv va1x0 vn1x0 vc1x0)] [] [(sv b3 b4 b5)] rfl rfl (oc rfl);refine YQ (w' := c9) (b := true) rfl (zL rfl rfl (e3 _ _ rfl Sz56)) rfl (fun h => nomatch h) ?_;have hO := hO.fr1;have h0 := h0.mt b7 hO zf;have a7 := a7.ma b7 hO zf (fun _ e => (zn (e)));have hC := hC.st b7 hO zf;have hO := hO.ext b7;have c4 : BoxV c9 vg1 56 [(sv b3 b4 b5)] := c4;refine xe ?_;clear hS;cases hs;have hO := hO.fr1.fr1;exact ⟨_,b3,b4,b5,e0,zF 20 trivial,hC,c4,a7,hO.top⟩
 refine zk (cb b8) (wp_skip ?_);cases hs;have hO := hO.fr1.fr1;exact ⟨_,va1x0,vn1x0,vc1x0,vf1x0,zF 20 trivial,hC,hb1,hl1x0,hO.top⟩

theorem Bd108 : zK Tryz.prog 108 := zP Tryz.func108 (by kernel_rfl) rfl

def wz (M : Nat → Prop) (w0 : World) (r : tM) (a : Act) (w : World) : Prop :=
  ∃ σ ra0 rn0 rc0 rf0,a = fr 26 (ovl σ [(2,(sv ra0 rn0 rc0))]) ∧ Chg [] w0 w ∧ (RT.os 48 (RT.os 3 ri)).val M w (sv ra0 rn0 rc0) r rf0 ∧ Own (Nw w0 []) (fun _ => True) w (rf0 ++ [])
def yK (c : Int × (List ((List Int) × (List Int)))) : Option ((List (List Int))) :=
  (forR (S := (List (List Int))) (R := (List (List Int))) (fun _ x36 s33 =>
  (yT x36.1 (c.1,c.2) s33).bind fun r50 =>
  (yT x36.2 (c.1,c.2) r50).bind fun r53 =>
  some (.nx r53)) 0 c.2 ([])).bind fun o37 => after o37 (fun r_ => some r_) (fun s33 =>
  some s33)
theorem wC (c : Int × (List ((List Int) × (List Int)))) (h0 : (RT.rs (RT.pr rl rl)).val M w (sv pa0 pn0 pc0) c.2 []) (hM : Hm w M) {r : tM} (hs : yK c = some r) :
    Gives Tryz.prog 78 [(.agg #[(iv c.1),(sv pa0 pn0 pc0)])] w (fun v w' => ∃ ra0 rn0 rc0 rf0,v = (sv ra0 rn0 rc0) ∧ Chg [] w w' ∧ (RT.os 48 (RT.os 3 ri)).val M w' (sv ra0 rn0 rc0) r rf0 ∧ Own (Nw w []) (fun _ => True) w' (rf0 ++ [])) := by
 refine zx Tryz.func78 rfl Tryz.ntmps78 (nl rfl) ?_;obtain ⟨hO,hC⟩ := st0 hM;unfold yK at hs;refine wp_k (K := (wz M w r)) (by rintro _ _ ⟨σ,ra0,rn0,rc0,rf0,rfl,hrest⟩; exact Zd Tryz.results78 (zH rfl) ⟨ra0,rn0,rc0,rf0,rfl,hrest⟩) (c_sr ?_);obtain ⟨e4,a2,g4,e5,d4,a0⟩ := zg w [(iv c.1),(sv pa0 pn0 pc0)] 63;refine za (w' := e4) (pq a2 0) (Zx rfl (by rw [g4,e5]; kernel_rfl)) ?_;obtain ⟨h0,hC⟩ := xt2 d4 h0 hC;have hO := hO.new1 d4 e5 a0.lt;refine ax rfl (zb (c_sr ?_));obtain ⟨d5,b2,g5,e6,d2,e7⟩ := zg e4 [] 48;refine za (w' := d5) (sv (some ⟨b2,0,none⟩) 0 0) (zy rfl (by rw [g5,e6]; kernel_rfl)) ?_;obtain ⟨h0,a0,hC⟩ := xt3 d2 h0 a0 hC;have hO := hO.new1 d2 e6 e7.lt;have b3 := os0 (r := (RT.os 3 ri)) (M := M) e7;obtain ⟨g6,a1,g7,e8,d0,e9⟩ := zg d5 [(sv none 0 0)] 56;refine za (w' := g6) (pq a1 0) (Zy (by rw [g7,e8]; kernel_rfl)) ?_;obtain ⟨h0,a0,b3,hC⟩ := xt4 d0 h0 a0 b3 hC;have hO := hO.new1 d0 e8 e9.lt;obtain ⟨f0,g8,d1,a4⟩ := zM (P := Tryz.prog) e9 [] [(sv none 0 0)] [] [(sv (some ⟨b2,0,none⟩) 0 0)] rfl rfl (oc rfl);refine zS (w' := f0) (zL rfl rfl (g8 _ _ rfl Sz56)) ?_;have h0 := h0.mt d1 hO zf;have a0 := a0.ap d1 hO zf (zd mS);have b3 := b3.ma d1 hO zf (fun _ e => (zn (e)));have hC := hC.st d1 hO zf;have hO := hO.ext d1;have a4 : BoxV f0 a1 56 [(sv (some ⟨b2,0,none⟩) 0 0)] := a4;refine zb (c_sr (za (.func (.func 108) #[] #[(pq a2 0),(pq a1 0)]) (zda rfl rfl) (za (.func (.func 108) #[] #[(pq a2 0),(pq a1 0)]) (zG rfl) (zb (ze (c_sr (za (pq a2 1) (zj rfl xr) (za _ (ld rfl Ag61 Sz61 a0 rfl) (za _ (zt Sl61 (zB h0) rfl) (mi rfl (zb ?_)))))))))));obtain ⟨o37,g9,hs⟩ := bq hs;refine wp_block (Yl (id := 0) (I := fun i_ xs_ s33 a a3 => ∃ a6 : Nat,i_ = (a6 : Int) ∧ List.drop a6 c.2 = xs_ ∧ (∃ σ c1 c2 c3 b4,a = fr 26 (ovl σ [(3,(pq a1 0)),(4,(.func (.func 108) #[] #[(pq a2 0),(pq a1 0)])),(10,(sv pa0 pn0 pc0)),(11,(iv (c.2.length : Int))),(12,(iv (a6 : Int)))]) ∧ Chg [] w a3 ∧ Own (Nw w []) M a3 (b4 ++ ([a1] ++ ([a2] ++ []))) ∧ (RT.rs (RT.pr rl rl)).val M a3 (sv pa0 pn0 pc0) c.2 [] ∧ BoxV a3 a2 63 [(iv c.1),(sv pa0 pn0 pc0)] ∧ BoxV a3 a1 56 [(sv c1 c2 c3)] ∧ (RT.os 48 (RT.os 3 ri)).val M a3 (sv c1 c2 c3) s33 b4)) (J := fun s33 a a3 => ∃ σ b5 b6 b7 d3,a = fr 26 (ovl σ [(3,(pq a1 0))]) ∧ Chg [] w a3 ∧ Own (Nw w []) M a3 (d3 ++ ([a1] ++ ([a2] ++ []))) ∧ (RT.rs (RT.pr rl rl)).val M a3 (sv pa0 pn0 pc0) c.2 [] ∧ BoxV a3 a2 63 [(iv c.1),(sv pa0 pn0 pc0)] ∧ BoxV a3 a1 56 [(sv b5 b6 b7)] ∧ (RT.os 48 (RT.os 3 ri)).val M a3 (sv b5 b6 b7) s33 d3) (K := (wz M w)) ?_ ?_ c.2 0 [] o37 _ _ ?_ g9 ?_)
 ·rintro _ s33 a a3 ⟨a6,rfl,hd,σ,c1,c2,c3,b4,rfl,hC,hO,h0,a0,a4,b8⟩;have hlt := ZJ hd;refine c_sr (za _ (zA rfl rfl) (zb (ze (zk (df hlt) (wp_exit ?_)))));have hO := hO.fr2.fr2.fr2;exact ⟨rfl,_,c1,c2,c3,b4,fr_m 26 rfl,hC,hO,h0,a0,a4,b8⟩
 ·rintro _ x36 xs_ s33 o37 a a3 ⟨a6,rfl,hd,σ,c1,c2,c3,b4,rfl,hC,hO,h0,a0,a4,b8⟩ hs;have hlt := Zt hd;have h1 := Zk hd;refine c_sr (za _ (zA rfl rfl) (zb (ze (zl (dt hlt) (wp_skip (ze (wp_block (c_sr ?_))))))));obtain ⟨h2,h3,h4,d6⟩ := zI Sl61 wt h0 h1;refine za _ (ip h4 rfl rfl) ?_;obtain ⟨j2,h5,h6⟩ := zT Ag114 wt (by intro h; cases h) d6;obtain ⟨j3,rfl,h7⟩ := h6;obtain ⟨j4,j5,rfl,h8,h9⟩ := YG h7;obtain ⟨c4,c5,c6,rfl,a7⟩ := xb h8;obtain ⟨c7,c8,c9,rfl,a8⟩ := xb h9;refine za (.agg #[(sv c4 c5 c6),(sv c7 c8 c9)]) (zo rfl (h5 _ (Chg.refl _ _))) ?_;obtain ⟨i0,a5,i1,f1,a9,f2⟩ := zg a3 [(sv none 0 0),(sv none 0 0)] 114;refine za (w' := i0) (pq a5 0) (Zy (by rw [i1,f1]; kernel_rfl)) ?_;obtain ⟨h0,a0,a4,b8,a7,a8,d6,hC⟩ := xt8 a9 h0 a0 a4 b8 a7 a8 d6 hC;have hO := hO.new1 a9 f1 f2.lt;obtain ⟨f3,i2,b0,b1⟩ := zM (P := Tryz.prog) f2 [] [(sv none 0 0),(sv none 0 0)] [] [(sv c4 c5 c6),(sv c7 c8 c9)] rfl rfl (oc rfl);refine zS (w' := f3) (zL rfl rfl (i2 _ _ rfl wt)) ?_;have h0 := h0.mt b0 hO zf;have a0 := a0.ap b0 hO zf (zd (zd mS));have a4 := a4.ap b0 hO zf (zd mS);have b8 := b8.ma b0 hO zf (fun _ e => (zn (e)));have a7 := a7.mt b0 hO zf;have a8 := a8.mt b0 hO zf;have hC := hC.st b0 hO zf;have hO := hO.ext b0;have b1 : BoxV f3 a5 114 [(sv c4 c5 c6),(sv c7 c8 c9)] := b1;refine zb (c_sr (za (.func (.func 108) #[] #[(pq a2 0),(pq a1 0)]) (zD rfl) (za (pq a5 0) (zj rfl VC) (za _ (ld rfl Ag48 Sz48 b1 rfl) ?_))));have hO := hO.fr3.fr2.fr3;have d7 := hO;have d7 := d7.fr2;have f4 := Own.lend (F := ([a1] ++ (b4 ++ []))) (R := [a5] ++ []) (Own.perm (d7.less) (by simp));obtain ⟨r50,i3,hs⟩ := bq hs;refine Wa rfl Bd108 rfl (Xl (M := (Less M [a2])) x36.1 (c.1,c.2) s33 (a7.sub Less.sub) (show RBox (Less M [a2]) _ a2 63 [(iv c.1),(sv pa0 pn0 pc0)] from ⟨a0,fun h => by simp [Less] at h⟩) (h0.sub Less.sub) (show BoxV _ a1 56 [(sv c1 c2 c3)] from a4) (b8.sub Less.sub) f4 f4.fut i3) ?_;rintro _ i4 ⟨f5,f6,f7,d8,rfl,b9,d9,e0,i5⟩;have hO := hO.fr2.fr2.fr2.perm (R := ([a1] ++ (b4 ++ [])) ++ ([a2] ++ ([a5] ++ []))) (by simp);have h0 := h0.mt b9 hO zf;have a0 := a0.ap b9 hO zf mS;have a7 := a7.mt b9 hO zf;have a8 := a8.mt b9 hO zf;have b1 := b1.ap b9 hO zf (zd mS);have hC := hC.st b9 hO zf;have hO := Own.join hO b9 i5;have hO := hO.perm (R := [a1] ++ (d8 ++ ([a2] ++ ([a5] ++ [])))) (by simp);have e0 := e0.free (M' := M) (Free.os (Free.os Free.int));have d9 : BoxV i4 a1 56 [(sv f5 f6 f7)] := d9;refine zb (zh (za (.func (.func 108) #[] #[(pq a2 0),(pq a1 0)]) (zD rfl) (za (pq a5 1) (zj rfl XB) (za _ (ld rfl Ag48 Sz48 b1 rfl) ?_))));have hO := hO.fr2.fr2.fr2;have e1 := hO;have e1 := e1.fr2;have f8 := Own.lend (F := ([a1] ++ (d8 ++ []))) (R := [a5] ++ []) (Own.perm (e1.less) (by simp));obtain ⟨r53,i6,hs⟩ := bq hs;refine Wa rfl Bd108 rfl (Xl (M := (Less M [a2])) x36.2 (c.1,c.2) r50 (a8.sub Less.sub) (show RBox (Less M [a2]) _ a2 63 [(iv c.1),(sv pa0 pn0 pc0)] from ⟨a0,fun h => by simp [Less] at h⟩) (h0.sub Less.sub) (show BoxV _ a1 56 [(sv f5 f6 f7)] from d9) (e0.sub Less.sub) f8 f8.fut i6) ?_;rintro _ i7 ⟨f9,g0,g1,g2,rfl,c0,e2,e3,i9⟩;have hO := hO.fr2.fr2.fr2.perm (R := ([a1] ++ (d8 ++ [])) ++ ([a2] ++ ([a5] ++ []))) (by simp);have h0 := h0.mt c0 hO zf;have a0 := a0.ap c0 hO zf mS;have a7 := a7.mt c0 hO zf;have a8 := a8.mt c0 hO zf;have b1 := b1.ap c0 hO zf (zd mS);have hC := hC.st c0 hO zf;have hO := Own.join hO c0 i9;have hO := hO.perm (R := [a1] ++ (g2 ++ ([a2] ++ ([a5] ++ [])))) (by simp);have e3 := e3.free (M' := M) (Free.os (Free.os Free.int));have e2 : BoxV i7 a1 56 [(sv f9 g0 g1)] := e2;refine zb (zh (za _ (yad rfl rfl) (mi rfl (zb ?_))));cases hs;have hO := hO.fr3.drop.fr2.fr1.fr2;exact ⟨_,rfl,Zb hd,_,f9,g0,g1,g2,zF 26 ⟨rfl,rfl,rfl,rfl,congrArg (Value.int .i64) (ZZ hlt (Int.natCast_nonneg _) (xj h0)),trivial⟩,hC,hO,h0,a0,e2,e3⟩
 ·have hO := hO.fr2.fr1.fr2;exact ⟨0,rfl,rfl,_,(some ⟨b2,0,none⟩),0,0,[b2],fr_m 26 rfl,hC,hO,h0,a0,a4,b3⟩
 cases o37 with
 | nx _ => trivial
 | rt r_ =>
  have hs := zr hs;intro j0 g3 hK;cases hs;exact hK
 | br s33 =>
  have hs := zq hs;rintro j0 a3 ⟨σ,b5,b6,b7,d3,rfl,hC,hO,h0,a0,a4,j1⟩;refine c_sr (za _ (ld rfl Ag56 Sz56 a4 rfl) (ax rfl (zb (wp_ret ?_))));cases hs;have hO := hO.fr1.drop.fr1.drop;exact ⟨_,b5,b6,b7,d3,fr_m 26 rfl,hC,j1,hO.top⟩

def wA (M : Nat → Prop) (w0 : World) (r : (List Int)) (a : Act) (w : World) : Prop :=
  ∃ σ ra0 rn0 rc0 rf0,a = fr 30 (ovl σ [(6,(sv ra0 rn0 rc0))]) ∧ Chg [] w0 w ∧ (RT.os 3 ri).val M w (sv ra0 rn0 rc0) r rf0 ∧ Own (Nw w0 []) (fun _ => True) w (rf0 ++ [])
def Xc (n : Int) (k : Int) (place : Int) : Option ((List Int)) :=
  (ZB n k).bind fun r2 =>
  (mks r2 (0 : Int)).bind fun y4 =>
  (forC (S := (List Int)) (R := (List Int)) (fun k25 s23 =>
  (Zp k25 k n).bind fun r32 =>
  (idx r32 place).bind fun x34 =>
  (idx s23 k25).bind fun x36 =>
  some (.nx (List.set s23 (Int.toNat k25) x34))) 0 (y4.length : Int) y4).bind fun o27 => after o27 (fun r_ => some r_) (fun s23 =>
  some s23)
theorem VI {M : Nat → Prop} {w : World}  (n : Int) (k : Int) (place : Int) (hM : Hm w M) {r : (List Int)} (hs : Xc n k place = some r) :
    Gives Tryz.prog 113 [(iv n),(iv k),(iv place)] w (fun v w' => ∃ ra0 rn0 rc0 rf0,v = (sv ra0 rn0 rc0) ∧ Chg [] w w' ∧ (RT.os 3 ri).val M w' (sv ra0 rn0 rc0) r rf0 ∧ Own (Nw w []) (fun _ => True) w' (rf0 ++ [])) := by
 refine zx Tryz.func113 rfl Tryz.ntmps113 (nl rfl) ?_;obtain ⟨hO,hC⟩ := st0 hM;unfold Xc at hs;refine wp_k (K := (wA M w r)) (by rintro _ _ ⟨σ,ra0,rn0,rc0,rf0,rfl,hrest⟩; exact Zd Tryz.results113 (zH rfl) ⟨ra0,rn0,rc0,rf0,rfl,hrest⟩) (c_sr (ax rfl (zb (c_sr (mi rfl (mi rfl ?_))))));obtain ⟨r2,b8,hs⟩ := bq hs;refine zC Bd72 rfl (XX (M := M) n k  hO.fut b8) ?_;rintro _ a8 ⟨rfl,b3⟩;obtain ⟨hC,hO⟩ := xt2 b3 hC hO;obtain ⟨y4,b9,hs⟩ := bq hs;obtain ⟨a0,a1,a2,c0,c1,c2,b4,c3,a6⟩ := Wb (M := M) (w := a8) (r := ri) Rw48 b9 (fun _ _ => ⟨rfl,rfl⟩);refine za (w' := c0) (sv a0 a1 a2) (Xf rfl rfl c2) ?_;have hC := hC.ext b4;have hO := hO.new b4 c3 (zu a6) a6.fpl;refine ax rfl (zb (ze (c_sr (ms rfl (za _ (zt Sl48 (yD a6) rfl) (mi rfl (zb ?_)))))));obtain ⟨o27,c4,hs⟩ := bq hs;refine wp_block (zU (id := 0) (y4.length : Int) (I := fun k25 s23 a a3 => ∃ σ a5,a = fr 30 (ovl σ [(0,(iv n)),(1,(iv k)),(2,(iv place)),(7,(sv a0 a1 a2)),(14,(iv (y4.length : Int))),(15,(iv k25))]) ∧ Chg [] w a3 ∧ Own (Nw w []) M a3 (a5 ++ []) ∧ (RT.os 3 ri).val M a3 (sv a0 a1 a2) s23 a5) (J := fun s23 a a3 => ∃ σ a7,a = fr 30 (ovl σ [(7,(sv a0 a1 a2))]) ∧ Chg [] w a3 ∧ Own (Nw w []) M a3 (a7 ++ []) ∧ (RT.os 3 ri).val M a3 (sv a0 a1 a2) s23 a7) (K := (wA M w)) ?_ ?_ 0 y4 o27 _ _ ?_ c4 ?_)
 ·rintro k25 s23 a a3 ⟨σ,a5,rfl,hC,hO,a4⟩ hlt;refine c_sr (za _ (zA rfl rfl) (zb (ze (zk (df hlt) (wp_exit ?_)))));exact ⟨rfl,_,a5,fr_m 30 rfl,hC,hO,a4⟩
 ·rintro k25 s23 o27 a a3 ⟨σ,a5,rfl,hC,hO,a4⟩ hlt hw hs;refine c_sr (za _ (zA rfl rfl) (zb (ze (zl (dt hlt) (wp_skip (ze (wp_block (c_sr (mi rfl (ai rfl (zb (zh (ms rfl (mi rfl (mi rfl (mi rfl (mi rfl ?_)))))))))))))))));obtain ⟨r32,c5,hs⟩ := bq hs;refine zC Bd95 rfl (wJ (M := M) k25 k n  hO.fut c5) ?_;rintro _ e1 ⟨e2,e3,e4,c6,rfl,a9,b0,c7⟩;obtain ⟨a4,hC⟩ := xt2 a9 a4 hC;have hO := Own.join0 hO a9 c7;have hO := hO.perm (R := c6 ++ (a5 ++ [])) (by simp);refine mi rfl ?_;obtain ⟨x34,c8,hs⟩ := bq hs;obtain ⟨c9,e5,e6,e7,d0,d1,e8⟩ := ZI Sl48 Sz3 b0 c8;refine za _ (ip d0 rfl rfl) (za (iv x34) (zo rfl ((zp Ag3 Sz3 d1) _ (Chg.refl _ _))) ?_);obtain ⟨x36,d2,hs⟩ := bq hs;obtain ⟨b5,e9,b6,d3,d4,f0,f1⟩ := ZI Sl48 Sz3 a4 d2;refine za _ (ip d4 rfl rfl) ?_;have hO := hO.fr1;obtain ⟨d5,d6,d7,b1,d8,b2⟩ := YI (P := Tryz.prog) (c' := [(iv x34)]) b6 a4 d3 (fun g hg => hO.inM g (zw a4 g (by simpa using hg))) ⟨rfl,rfl⟩ List.nodup_nil (fun _ h => nomatch h) (fun _ h => .inl h);have b7 : ∀ q ∈ [b5],q ∈ a5 := fun q hq => zw a4 q (by rw [b6]; exact hq)
  refine zS (w' := d5) (zL rfl rfl (d7 _ _ rfl Sz3)) ?_;have b0 := b0.ma b1 hO b7 (fun _ e => (zn (e)));have hC := hC.st b1 hO b7;have hO := hO.grow b1 (fun q hq => .inl ((d8 q hq).resolve_right (fun h => nomatch h))) (zu b2) b2.fpl;refine zb (zh (za _ (yad rfl rfl) (mi rfl (zb ?_))));cases hs;have hO := hO.fr1.drop;exact ⟨_,d6,zF 30 ⟨rfl,rfl,rfl,rfl,rfl,congrArg (Value.int .i64) hw,trivial⟩,hC,hO,b2⟩
 ·exact ⟨_,c1,fr_m 30 rfl,hC,hO,a6⟩
 cases o27 with
 | nx _ => trivial
 | rt r_ =>
  have hs := zr hs;intro d9 a8 hK;cases hs;exact hK
 | br s23 =>
  have hs := zq hs;rintro d9 a3 ⟨σ,a7,rfl,hC,hO,e0⟩;refine c_sr (ms rfl (ax rfl (zb (wp_ret ?_))));cases hs;exact ⟨_,a0,a1,a2,a7,fr_m 30 rfl,hC,e0,hO.top⟩

def WJ (M : Nat → Prop) (w0 : World) (r : (List Int)) (a : Act) (w : World) : Prop :=
  ∃ σ ra0 rn0 rc0 rf0,a = fr 27 (ovl σ [(4,(sv ra0 rn0 rc0))]) ∧ Chg [] w0 w ∧ (RT.os 3 ri).val M w (sv ra0 rn0 rc0) r rf0 ∧ Own (Nw w0 []) (fun _ => True) w (rf0 ++ [])
def wv (f : List Int) (g : List Int) : Option ((List Int)) :=
  (mks (f.length : Int) (0 : Int)).bind fun y4 =>
  (forC (S := (List Int)) (R := (List Int)) (fun k23 s21 =>
  (idx f k23).bind fun x29 =>
  (idx g x29).bind fun x31 =>
  (idx s21 k23).bind fun x33 =>
  some (.nx (List.set s21 (Int.toNat k23) x31))) 0 (f.length : Int) y4).bind fun o25 => after o25 (fun r_ => some r_) (fun s21 =>
  some s21)
theorem Ux (f : List Int) (g : List Int) (h0 : rl.val M w (sv pa0 pn0 pc0) f []) (h1 : rl.val M w (sv pa1 pn1 pc1) g []) (hM : Hm w M) {r : (List Int)} (hs : wv f g = some r) :
    Gives Tryz.prog 129 [(sv pa0 pn0 pc0),(sv pa1 pn1 pc1)] w (fun v w' => ∃ ra0 rn0 rc0 rf0,v = (sv ra0 rn0 rc0) ∧ Chg [] w w' ∧ (RT.os 3 ri).val M w' (sv ra0 rn0 rc0) r rf0 ∧ Own (Nw w []) (fun _ => True) w' (rf0 ++ [])) := by
 refine zx Tryz.func129 rfl Tryz.ntmps129 (nl rfl) ?_;obtain ⟨hO,hC⟩ := st0 hM;unfold wv at hs;refine wp_k (K := (WJ M w r)) (by rintro _ _ ⟨σ,ra0,rn0,rc0,rf0,rfl,hrest⟩; exact Zd Tryz.results129 (zH rfl) ⟨ra0,rn0,rc0,rf0,rfl,hrest⟩) (c_sr (ax rfl (zb (c_sr (ms rfl (za _ (zt Sl48 (zB h0) rfl) ?_))))));obtain ⟨y4,b5,hs⟩ := bq hs;obtain ⟨a1,a2,a3,b6,b7,b8,a6,b9,a9⟩ := Wb (M := M) (w := w) (r := ri) Rw48 b5 (fun _ _ => ⟨rfl,rfl⟩);refine za (w' := b6) (sv a1 a2 a3) (Xf rfl rfl b8) ?_;obtain ⟨h0,h1,hC⟩ := xt3 a6 h0 h1 hC;have hO := hO.new a6 b9 (zu a9) a9.fpl;refine ax rfl (zb (ze (c_sr (ms rfl (za _ (zt Sl48 (zB h0) rfl) (mi rfl (zb ?_)))))));obtain ⟨o25,c0,hs⟩ := bq hs;refine wp_block (zU (id := 0) (f.length : Int) (I := fun k23 s21 a a0 => ∃ σ a4,a = fr 27 (ovl σ [(1,(sv pa1 pn1 pc1)),(5,(sv a1 a2 a3)),(11,(sv pa0 pn0 pc0)),(12,(iv (f.length : Int))),(13,(iv k23))]) ∧ Chg [] w a0 ∧ Own (Nw w []) M a0 (a4 ++ []) ∧ rl.val M a0 (sv pa0 pn0 pc0) f [] ∧ rl.val M a0 (sv pa1 pn1 pc1) g [] ∧ (RT.os 3 ri).val M a0 (sv a1 a2 a3) s21 a4) (J := fun s21 a a0 => ∃ σ a7,a = fr 27 (ovl σ [(5,(sv a1 a2 a3))]) ∧ Chg [] w a0 ∧ Own (Nw w []) M a0 (a7 ++ []) ∧ rl.val M a0 (sv pa0 pn0 pc0) f [] ∧ rl.val M a0 (sv pa1 pn1 pc1) g [] ∧ (RT.os 3 ri).val M a0 (sv a1 a2 a3) s21 a7) (K := (WJ M w)) ?_ ?_ 0 y4 o25 _ _ ?_ c0 ?_)
 ·rintro k23 s21 a a0 ⟨σ,a4,rfl,hC,hO,h0,h1,a5⟩ hlt;refine c_sr (za _ (zA rfl rfl) (zb (ze (zk (df hlt) (wp_exit ?_)))));exact ⟨rfl,_,a4,fr_m 27 rfl,hC,hO,h0,h1,a5⟩
 ·rintro k23 s21 o25 a a0 ⟨σ,a4,rfl,hC,hO,h0,h1,a5⟩ hlt hw hs;refine c_sr (za _ (zA rfl rfl) (zb (ze (zl (dt hlt) (wp_skip (ze (wp_block (c_sr (mi rfl ?_)))))))));obtain ⟨x29,c1,hs⟩ := bq hs;obtain ⟨c2,c3,c4,c5⟩ := zI Sl48 Sz3 h0 c1;refine za _ (ip c4 rfl rfl) (za (iv x29) (zo rfl ((zp Ag3 Sz3 c5) _ (Chg.refl _ _))) (ai rfl (ai rfl (zb (zh (ms rfl (mi rfl (ms rfl (mi rfl ?_)))))))));obtain ⟨x31,c6,hs⟩ := bq hs;obtain ⟨c7,c8,c9,d0⟩ := zI Sl48 Sz3 h1 c6;refine za _ (ip c9 rfl rfl) (za (iv x31) (zo rfl ((zp Ag3 Sz3 d0) _ (Chg.refl _ _))) ?_);obtain ⟨x33,d1,hs⟩ := bq hs;obtain ⟨b2,e0,b3,d2,d3,e1,e2⟩ := ZI Sl48 Sz3 a5 d1;refine za _ (ip d3 rfl rfl) ?_;obtain ⟨d4,d5,d6,a8,d7,b0⟩ := YI (P := Tryz.prog) (c' := [(iv x31)]) b3 a5 d2 (fun g hg => hO.inM g (zw a5 g (by simpa using hg))) ⟨rfl,rfl⟩ List.nodup_nil (fun _ h => nomatch h) (fun _ h => .inl h);have b1 : ∀ q ∈ [b2],q ∈ a4 := fun q hq => zw a5 q (by rw [b3]; exact hq)
  refine zS (w' := d4) (zL rfl rfl (d6 _ _ rfl Sz3)) ?_;have h0 := h0.mt a8 hO b1;have h1 := h1.mt a8 hO b1;have hC := hC.st a8 hO b1;have hO := hO.grow a8 (fun q hq => .inl ((d7 q hq).resolve_right (fun h => nomatch h))) (zu b0) b0.fpl;refine zb (zh (za _ (yad rfl rfl) (mi rfl (zb ?_))));cases hs;exact ⟨_,d5,zF 27 ⟨rfl,rfl,rfl,rfl,congrArg (Value.int .i64) hw,trivial⟩,hC,hO,h0,h1,b0⟩
 ·exact ⟨_,b7,fr_m 27 rfl,hC,hO,h0,h1,a9⟩
 cases o25 with
 | nx _ => trivial
 | rt r_ =>
  have hs := zr hs;intro d8 b4 hK;cases hs;exact hK
 | br s21 =>
  have hs := zq hs;rintro d8 a0 ⟨σ,a7,rfl,hC,hO,h0,h1,d9⟩;refine c_sr (ms rfl (ax rfl (zb (wp_ret ?_))));cases hs;exact ⟨_,a1,a2,a3,a7,fr_m 27 rfl,hC,d9,hO.top⟩

def vc (M : Nat → Prop) (w0 : World) (r : Int) (a : Act) (w : World) : Prop :=
  ∃ σ,a = fr 21 (ovl σ [(4,(iv r))]) ∧ Chg [] w0 w
def wk (args : List Int) (n : Int) : Option (Int) :=
  (forR (S := Int) (R := Int) (fun _ x6 s3 =>
  some (.nx (w64 ((w64 (s3 * n)) + x6)))) 0 args 0).bind fun o7 => after o7 (fun r_ => some r_) (fun s3 =>
  some s3)
theorem UU (args : List Int) (n : Int) (h0 : rl.val M w (sv pa0 pn0 pc0) args []) (hM : Hm w M) {r : Int} (hs : wk args n = some r) :
    Gives Tryz.prog 128 [(sv pa0 pn0 pc0),(iv n)] w (fun v w' => v = (iv r) ∧ Chg [] w w') := by
 refine zx Tryz.func128 rfl Tryz.ntmps128 (nl rfl) ?_;obtain ⟨hO,hC⟩ := st0 hM;unfold wk at hs;refine wp_k (K := (vc M w r)) (by rintro _ _ ⟨σ,rfl,hrest⟩; exact Zd Tryz.results128 (zH rfl) ⟨rfl,hrest⟩) (c_sr (ai rfl (zb (c_sr (ai rfl (zb (ze (c_sr (ms rfl (za _ (zt Sl48 (zB h0) rfl) (mi rfl (zb ?_))))))))))));obtain ⟨o7,a3,hs⟩ := bq hs;refine wp_block (Yl (id := 0) (I := fun i_ xs_ s3 a a0 => ∃ a1 : Nat,i_ = (a1 : Int) ∧ List.drop a1 args = xs_ ∧ (∃ σ,a = fr 21 (ovl σ [(1,(iv n)),(5,(iv s3)),(8,(sv pa0 pn0 pc0)),(9,(iv (args.length : Int))),(10,(iv (a1 : Int)))]) ∧ Chg [] w a0 ∧ Own (Nw w []) M a0 [] ∧ rl.val M a0 (sv pa0 pn0 pc0) args [])) (J := fun s3 a a0 => ∃ σ,a = fr 21 (ovl σ [(5,(iv s3))]) ∧ Chg [] w a0 ∧ Own (Nw w []) M a0 [] ∧ rl.val M a0 (sv pa0 pn0 pc0) args []) (K := (vc M w)) ?_ ?_ args 0 0 o7 _ _ ?_ a3 ?_)
 ·rintro _ s3 a a0 ⟨a1,rfl,hd,σ,rfl,hC,hO,h0⟩;have hlt := ZJ hd;refine c_sr (za _ (zA rfl rfl) (zb (ze (zk (df hlt) (wp_exit ?_)))));exact ⟨rfl,_,fr_m 21 rfl,hC,hO,h0⟩
 ·rintro _ x6 xs_ s3 o7 a a0 ⟨a1,rfl,hd,σ,rfl,hC,hO,h0⟩ hs;have hlt := Zt hd;have a4 := Zk hd;refine c_sr (za _ (zA rfl rfl) (zb (ze (zl (dt hlt) (wp_skip (ze (wp_block (c_sr ?_))))))));obtain ⟨a5,a6,a7,a8⟩ := zI Sl48 Sz3 h0 a4;refine za _ (ip a7 rfl rfl) (za (iv x6) (zo rfl ((zp Ag3 Sz3 a8) _ (Chg.refl _ _))) (ai rfl (zb (zh (mi rfl (mi rfl (za _ (ymu rfl rfl) (mi rfl (za _ (yad rfl rfl) (ai rfl (zb (zh (za _ (yad rfl rfl) (mi rfl (zb ?_)))))))))))))));cases hs;exact ⟨_,rfl,Zb hd,_,zF 21 ⟨rfl,rfl,rfl,rfl,congrArg (Value.int .i64) (ZZ hlt (Int.natCast_nonneg _) (xj h0)),trivial⟩,hC,hO,h0⟩
 ·exact ⟨0,rfl,rfl,_,fr_m 21 rfl,hC,hO,h0⟩
 cases o7 with
 | nx _ => trivial
 | rt r_ =>
  have hs := zr hs;intro a9 a2 hK;cases hs;exact hK
 | br s3 =>
  have hs := zq hs;rintro a9 a0 ⟨σ,rfl,hC,hO,h0⟩;refine c_sr (mi rfl (ai rfl (zb (wp_ret ?_))));cases hs;exact ⟨_,fr_m 21 rfl,hC⟩

theorem Bd78 : zK Tryz.prog 78 := zP Tryz.func78 (by kernel_rfl) rfl

theorem Bd129 : zK Tryz.prog 129 := zP Tryz.func129 (by kernel_rfl) rfl

theorem Bd128 : zK Tryz.prog 128 := zP Tryz.func128 (by kernel_rfl) rfl

end Go.Proofs
