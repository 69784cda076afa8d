/- What functions of the program compute, as plain functions, and that a call gives just that. Conditions: those named in each theorem. -/
import Derived.Test.YtkbacbikbndakaaF2
set_option linter.unusedVariables false
namespace Go.Proofs
open Go.G Go.RowKit
set_option maxRecDepth 100000

def YR (M : Nat → Prop) (w0 : World) (qa0 : Option Addr) (qn0 qc0 : Nat) (qf0 : List Nat) (r : (List (List Int))) (a : Act) (w : World) : Prop :=
  ∃ (σ : Nat → Value) (rfi0 : List Nat), a = fr 8 (ovl σ []) ∧ Chg (qf0 ++ ([])) w0 w ∧ (RT.os 43 (RT.os 3 (RT.int .i64))).val M w (.slice qa0 qn0 qc0) r rfi0 ∧ Own (Nw w0 (qf0 ++ ([]))) (fun _ => True) w (rfi0 ++ ([]))
def Zp (rows : List (List Int)) : Option ((List (List Int))) :=
  (yJ (fun x_ y_ => (zX x_ y_).bind fun r_ => some (decide (r_ < 0))) rows (rows.length)).bind fun r5 =>
  some r5
set_option maxHeartbeats 4000000 in
theorem YS {M : Nat → Prop} {w : World} {pa0 : Option Addr} {pn0 pc0 : Nat} {pf0 : List Nat} (rows : List (List Int)) (h0 : (RT.os 43 (RT.os 3 ri)).val M w (.slice pa0 pn0 pc0) rows pf0) (hI : Own (Nw w (pf0 ++ ([]))) M w (pf0 ++ ([]))) (hM : ∀ g, w.heap.size ≤ g → M g) {r : (List (List Int))} (hs : Zp rows = some r) :
    Gives Try.prog 105 [(.slice pa0 pn0 pc0), (.func (.func 78) #[] #[])] w (fun v w' => ∃ (rfi0 : List Nat), v = (.tuple #[]) ∧ Chg (pf0 ++ ([])) w w' ∧ (RT.os 43 (RT.os 3 ri)).val M w' (.slice pa0 pn0 pc0) r rfi0 ∧ Own (Nw w (pf0 ++ ([]))) (fun _ => True) w' (rfi0 ++ ([]))) := by
 refine zr Try.func105 rfl Try.ntmps105 (Nat.le_of_ble_eq_true rfl) ?_
 have hO := hI
 have hC := Chg.refl (pf0 ++ ([])) w
 unfold Zp at hs
 refine wp_mono (Q := XM (YR M w pa0 pn0 pc0 pf0 r)) ?_ (fun e a c5 h => ?_)
 rotate_left
 ·cases e
  case ret =>
   obtain ⟨σ, rfi0, rfl, hrest⟩ := h
   exact Wp Try.results105  ⟨rfi0, rfl, hrest⟩
  case normal =>
   obtain ⟨σ, rfi0, rfl, hrest⟩ := h
   exact WM Try.results105  ⟨rfi0, rfl, hrest⟩
  all_goals exact (h : False).elim
 refine c_sr ?_
 obtain ⟨b0, a1, b4, b1, a6, a0⟩ := zi w [(.slice pa0 pn0 pc0)] 25
 refine za (w' := b0) (pq a1 0) (ZW rfl (by rw [b4, b1]; kernel_rfl)) ?_
 obtain ⟨h0, hC⟩ := xt2 a6 h0 hC
 have hO := hO.new1 a6 b1 a0.lt
 obtain ⟨a7, a2, b5, b2, a4, a3⟩ := zi b0 [(.func (.func 78) #[] #[])] 99
 refine za (w' := a7) (pq a2 0) (ZW rfl (by rw [b5, b2]; kernel_rfl)) ?_
 obtain ⟨h0, a0, hC⟩ := xt3 a4 h0 a0 hC
 have hO := hO.new1 a4 b2 a3.lt
 refine zb (ze (za _ (ld rfl Ag25 Sz25 a0 rfl) (za (.iface 25 (.slice pa0 pn0 pc0)) (y_iface Try.underlying25 rfl) (za (.func (.func 115) #[] #[(pq a2 0), (pq a1 0)]) (y_func rfl rfl) ?_))))
 have hO := hO.fr2
 obtain ⟨c6, b3, b6, a8, b7⟩ := Ei43
 have b8 := os_n h0
 obtain ⟨c7, b9, c0⟩ := sort_env (P := Try.prog) (ke := 23) (M := M) (gO := a2) (gR := a1) (tO := 99) (tR := 25) (fv := (.func (.func 78) #[] #[])) (ls := (fun x_ y_ => (zX x_ y_).bind fun r_ => some (decide (r_ < 0)))) (g := 115) (lb := #[(pq a2 0), (pq a1 0)]) rfl b3 b6 Ag43 a8 b7 rfl Sn1 Sn2 Sn9 Fs2 Fx129 Bd115 hO.inM (fun hg => hO.apart _ hg (zm (List.mem_singleton.2 rfl))) (fun hg => hO.apart _ hg (zl (zm (List.mem_singleton.2 rfl)))) (fun h hm ho hr hf hl => YF (M := Less M _) _ _ _ ho (((Frz.os (Frz.os Frz.int))).val h Less.sub Less.not) hr (less_fut hf h.fpl) (show ZE _ _ _ = some _ from hl)) h0 (n0 := (a7).heap.size) hO.lt a3.lt a0.lt hO.fut
 have c1 : Un (RT.os 3 ri) 43 M pa0 pn0 pc0 pf0 a2 a1 99 25 (.func (.func 78) #[] #[]) a7 rows := ⟨⟨_, h0, List.Perm.refl _⟩, a3, a0, hO.fut⟩
 have c2 := Own.lend (F := (pf0 ++ ([]))) (R := ([a2]) ++ (([a1]) ++ ([]))) (Own.perm hO (by simp))
 obtain ⟨r5, c3, hs⟩ := bind_some hs
 refine zy Bd114 rfl (We (M := M) (fun x_ y_ => (zX x_ y_).bind fun r_ => some (decide (r_ < 0))) rows pn0 (Nat.le_refl _) b3 b9 c0 c1 c2 hO.fut (by rw [b8]; exact c3)) ?_
 rintro _ c8 ⟨rfl, a5, ⟨⟨c4, a9, a8⟩, _, _, _⟩⟩
 have a0 := a0.ap a5 hO ZB (zl (zm (List.mem_singleton.2 rfl)))
 have a3 := a3.ap a5 hO ZB (zm (List.mem_singleton.2 rfl))
 have hC := hC.st a5 hO ZB
 have hO := hO.grow a5 (fun q hq => .inl (a8.mem_iff.1 hq)) (zw a9) a9.fpl
 refine zb ?_
 cases hs
 have hO := hO.fr1.drop.fr1.drop
 exact ⟨_, c4, zD 8 trivial, hC, a9, hO.top⟩

theorem Bd105 : zC Try.prog 105 := zI Try.func105 (by kernel_rfl) rfl

def wD (M : Nat → Prop) (w0 : World) (r : (List (List Int))) (a : Act) (w : World) : Prop :=
  ∃ (σ : Nat → Value) (ra0 : Option Addr) (rn0 rc0 : Nat) (rf0 : List Nat), a = fr 9 (ovl σ [(2, (.slice ra0 rn0 rc0))]) ∧ Chg [] w0 w ∧ (RT.os 43 (RT.os 3 (RT.int .i64))).val M w (.slice ra0 rn0 rc0) r rf0 ∧ Own (Nw w0 []) (fun _ => True) w (rf0 ++ ([]))
def ZZ (list : List (List Int)) : Option ((List (List Int))) :=
  (yZ list).bind fun r3 =>
  (Zp r3).bind fun r6 =>
  some r6
set_option maxHeartbeats 4000000 in
theorem wB {M : Nat → Prop} {w : World} {pa0 : Option Addr} {pn0 pc0 : Nat} (list : List (List Int)) (h0 : (RT.rs rl).val M w (.slice pa0 pn0 pc0) list ([])) (hM : ∀ g, w.heap.size ≤ g → M g) {r : (List (List Int))} (hs : ZZ list = some r) :
    Gives Try.prog 58 [(.slice pa0 pn0 pc0)] w (fun v w' => ∃ (ra0 : Option Addr) (rn0 rc0 : Nat) (rf0 : List Nat), v = (.slice ra0 rn0 rc0) ∧ Chg [] w w' ∧ (RT.os 43 (RT.os 3 ri)).val M w' (.slice ra0 rn0 rc0) r rf0 ∧ Own (Nw w []) (fun _ => True) w' (rf0 ++ ([]))) := by
 refine zr Try.func58 rfl Try.ntmps58 (Nat.le_of_ble_eq_true rfl) ?_
 have hO := Own.start (N := Nw w []) hM Nw.fut
 have hC := Chg.refl [] w
 unfold ZZ at hs
 refine wp_k (K := (wD M w r)) (by rintro _ _ ⟨σ, ra0, rn0, rc0, rf0, rfl, hrest⟩; exact Zh Try.results58 (zB rfl) ⟨ra0, rn0, rc0, rf0, rfl, hrest⟩) (c_sr (ax rfl (zb (c_sr (ms rfl ?_)))))
 obtain ⟨r3, a8, hs⟩ := bind_some hs
 refine zy Bd104 rfl (vf (M := M) list h0 hO.fut a8) ?_
 rintro _ b6 ⟨a0, a1, a2, a3, rfl, a4, a9, b0⟩
 obtain ⟨h0, hC⟩ := xt2 a4 h0 hC
 have hO := Own.join0 hO a4 b0
 have hO := hO.perm (R := a3 ++ ([])) (by simp)
 refine ax rfl (zb (c_sr (ms rfl ?_)))
 have b1 := hO
 have a5 := Own.lend (F := (a3 ++ ([]))) (R := []) (Own.perm (b1) (by simp))
 obtain ⟨r6, b2, hs⟩ := bind_some hs
 refine zy Bd105 rfl (YS (M := M) r3 a9 a5 a5.fut b2) ?_
 rintro _ b7 ⟨a6, rfl, a7, b3, b4⟩
 have hO := hO.perm (R := (a3 ++ ([])) ++ ([])) (by simp)
 have hC := hC.st a7 hO zj
 have hO := Own.join hO a7 b4
 have hO := hO.perm (R := a6 ++ ([])) (by simp)
 refine zb (c_sr (ms rfl (ax rfl (zb (wp_ret ?_)))))
 cases hs
 exact ⟨_, a0, a1, a2, a6, fr_m 9 rfl, hC, b3, hO.top⟩

theorem Bd39 : zC Try.prog 39 := zI Try.func39 (by kernel_rfl) rfl

theorem Bd89 : zC Try.prog 89 := zI Try.func89 (by kernel_rfl) rfl

theorem vN : ∀ (a : Addr) (w : World), (Instr.fieldAt 108 (.pointer (some a)) 2).run Try.prog w = .ok (.pointer (some (a.add 2))) w := fun _ _ => by kernel_rfl

theorem Bd56 : zC Try.prog 56 := zI Try.func56 (by kernel_rfl) rfl

theorem Bd58 : zC Try.prog 58 := zI Try.func58 (by kernel_rfl) rfl

theorem Fa108x0 : ∀ (a : Addr) (w : World), (Instr.fieldAt 108 (.pointer (some a)) 0).run Try.prog w = .ok (.pointer (some (a.add 0))) w := fun _ _ => by kernel_rfl

theorem Sz76 : SzT Try.prog 76 1 := ⟨_, rfl, rfl⟩

def xv (M : Nat → Prop) (w0 : World) (r : (Option (((Int × (List (Int × (List Int)))) × Int × (List (List Int)) × (List (ByteArray × Int))) × Int × (List (List Int)))) × Bool) (a : Act) (w : World) : Prop :=
  ∃ (σ : Nat → Value) (rn0 : Value) (rf0 : List Nat), a = fr 117 (ovl σ [(4, rn0), (5, (.bool r.2))]) ∧ Chg [] w0 w ∧ (RT.op 108 (RT.pr (RT.po 81 (RT.pr (RT.pr (RT.int .i64) (RT.rs (RT.pr (RT.int .i64) (RT.rs (RT.int .i64))))) (RT.pr (RT.int .i64) (RT.pr (RT.os 43 (RT.rs (RT.int .i64))) (RT.mo (Value.int .i64)))))) (RT.pr (RT.int .i64) (RT.rs (RT.rs (RT.int .i64)))))).val (PastL M [] w0 w (rf0 ++ ([]))) w rn0 r.1 rf0 ∧ Own (Nw w0 []) (fun _ => True) w (rf0 ++ ([]))
def yC (a_ : Int × (List (Int × (List Int)))) (k : Int) : Option ((Option (((Int × (List (Int × (List Int)))) × Int × (List (List Int)) × (List (ByteArray × Int))) × Int × (List (List Int)))) × Bool) :=
  ((yh (a_.1, a_.2)).bind fun r7 =>
  (bif (!r7) then some true else (bif (decide (k < 0)) then some true else (bif (decide (3 < k)) then some true else (ZX a_.1 k).bind fun r12 =>
  some (decide (64 < r12)))))).bind fun s3 =>
  (bif s3 then some (none, false) else (ZX a_.1 k).bind fun r15 =>
  (forC (S := (List (List Int))) (R := (Option (((Int × (List (Int × (List Int)))) × Int × (List (List Int)) × (List (ByteArray × Int))) × Int × (List (List Int)))) × Bool) (fun k107 s105 =>
  (mks r15 (0 : Int)).bind fun y116 =>
  (forC (S := (List Int)) (R := (Option (((Int × (List (Int × (List Int)))) × Int × (List (List Int)) × (List (ByteArray × Int))) × Int × (List (List Int)))) × Bool) (fun k137 s135 =>
  (yi k137 k a_.1).bind fun r144 =>
  (idx r144 k107).bind fun x146 =>
  (idx s135 k137).bind fun x148 =>
  some (.nx (List.set s135 (Int.toNat k137) x146))) 0 (y116.length : Int) y116).bind fun o139 => after o139 (fun r_ => some (.rt r_)) (fun s135 =>
  (app s105 ([s135])).bind fun y154 =>
  some (.nx y154))) 0 k ([])).bind fun o109 => after o109 (fun r_ => some r_) (fun s105 =>
  (yD (a_.1, a_.2) r15 s105).bind fun r167 =>
  (bif (!r167.2) then some (none, false) else (r167.1).bind fun p171 =>
  (ZZ p171.2.2.1).bind fun r177 =>
  (forC (S := (List (ByteArray × Int))) (R := (Option (((Int × (List (Int × (List Int)))) × Int × (List (List Int)) × (List (ByteArray × Int))) × Int × (List (List Int)))) × Bool) (fun k199 s197 =>
  (idx r177 k199).bind fun x205 =>
  (Zu x205).bind fun r211 =>
  some (.nx (mput s197 r211 k199))) 0 (r177.length : Int) p171.2.2.2).bind fun o201 => after o201 (fun r_ => some r_) (fun s197 =>
  some ((some (((p171.1.1, p171.1.2), p171.2.1, r177, s197), k, s105)), true)))))
set_option maxHeartbeats 4000000 in
theorem VW {M : Nat → Prop} {w : World} {pa0 : Option Addr} {pn0 pc0 : Nat} (a_ : Int × (List (Int × (List Int)))) (k : Int) (h0 : (RT.rs (RT.pr ri rl)).val M w (.slice pa0 pn0 pc0) a_.2 ([])) (hM : ∀ g, w.heap.size ≤ g → M g) {r : (Option (((Int × (List (Int × (List Int)))) × Int × (List (List Int)) × (List (ByteArray × Int))) × Int × (List (List Int)))) × Bool} (hs : yC a_ k = some r) :
    Gives Try.prog 48 [(.agg #[(iv a_.1), (.slice pa0 pn0 pc0)]), (iv k)] w (fun v w' => ∃ (rn0 : Value) (rf0 : List Nat), v = (.tuple #[rn0, (.bool r.2)]) ∧ Chg [] w w' ∧ (RT.op 108 (RT.pr (RT.po 81 (RT.pr (RT.pr ri (RT.rs (RT.pr ri rl))) (RT.pr ri (RT.pr (RT.os 43 rl) (RT.mo (Value.int .i64)))))) (RT.pr ri (RT.rs rl)))).val (PastL M [] w w' (rf0 ++ ([]))) w' rn0 r.1 rf0 ∧ Own (Nw w []) (fun _ => True) w' (rf0 ++ ([]))) := by
 refine zr Try.func48 rfl Try.ntmps48 (Nat.le_of_ble_eq_true rfl) ?_
 have hO := Own.start (N := Nw w []) hM Nw.fut
 have hC := Chg.refl [] w
 unfold yC at hs
 refine wp_k (K := (xv M w r)) (by rintro _ _ ⟨σ, rn0, rf0, rfl, hrest⟩; exact wE Try.results48 (zB rfl) (zB rfl) ⟨rn0, rf0, rfl, hrest⟩) (c_sr ?_)
 obtain ⟨i6, a5, l7, k5, i7, a0⟩ := zi w [(iv a_.1), (.slice pa0 pn0 pc0)] 35
 refine za (w' := i6) (pq a5 0) (ZW rfl (by rw [l7, k5]; kernel_rfl)) ?_
 obtain ⟨h0, hC⟩ := xt2 i7 h0 hC
 have hO := hO.new1 i7 k5 a0.lt
 refine za (.pointer none) (zE rfl) (ab rfl (zb (zd (zd ?_))))
 obtain ⟨s3, l8, hs⟩ := bind_some hs
 refine yO (I := fun a k6 => ∃ (σ : Nat → Value), a = fr 117 (ovl σ [(1, (iv k)), (2, (pq a5 0)), (4, (.pointer none)), (5, (.bool false)), (32, (.bool s3))]) ∧ Chg [] i6 k6) ?_ ?_
 ·replace hs := l8
  have hMid := Chg.refl [] i6
  refine ze (za _ (ldw rfl Ag35 a0 Sz35) ?_)
  obtain ⟨r7, l9, hs⟩ := bind_some hs
  refine zy Bd39 rfl (WX (M := M) (a_.1, a_.2) h0 hO.fut l9) ?_
  rintro _ t3 ⟨rfl, g1⟩
  obtain ⟨h0, a0, hMid, hC, hO⟩ := xt5 g1 h0 a0 hMid hC hO
  refine za _ (ZQ rfl) (mb rfl ?_)
  rcases zf hs with ⟨e4, hs⟩ | ⟨e4, hs⟩
  ·skip
   refine pn 18 (cb e4) (pn 18 (cb e4) (za _ (ptb (cb e4) rfl) (mb rfl (pn 22 (by rfl) (pn 22 (by rfl) (za _ (ptb (by rfl) rfl) (mb rfl (pn 26 (by rfl) (pn 26 (by rfl) (pn 26 (by rfl) (pn 26 (by rfl) (pn 26 (by rfl) (za _ (ptb (by rfl) rfl) (zb ?_))))))))))))))
   cases hs
   exact ⟨_, fr_m 117 rfl, hMid⟩
  refine py 18 (iv k) (cb e4) (zt rfl) (py 18 _ (cb e4) (zx rfl rfl) (za _ (pfb (cb e4) rfl) (mb rfl ?_)))
  rcases zf hs with ⟨e5, hs⟩ | ⟨e5, hs⟩
  ·skip
   refine pn 22 (cb e5) (pn 22 (cb e5) (za _ (ptb (cb e5) rfl) (mb rfl (pn 26 (by rfl) (pn 26 (by rfl) (pn 26 (by rfl) (pn 26 (by rfl) (pn 26 (by rfl) (za _ (ptb (by rfl) rfl) (zb ?_))))))))))
   cases hs
   exact ⟨_, fr_m 117 rfl, hMid⟩
  refine py 22 (iv k) (cb e5) (zt rfl) (py 22 _ (cb e5) (YJ rfl rfl) (za _ (pfb (cb e5) rfl) (mb rfl ?_)))
  rcases zf hs with ⟨b7, hs⟩ | ⟨b7, hs⟩
  ·skip
   refine pn 26 (cb b7) (pn 26 (cb b7) (pn 26 (cb b7) (pn 26 (cb b7) (pn 26 (cb b7) (za _ (ptb (cb b7) rfl) (zb ?_))))))
   cases hs
   exact ⟨_, fr_m 117 rfl, hMid⟩
  refine py 26 (pq a5 0) (cb b7) (zk rfl Yo) (py 26 _ (cb b7) (ld rfl Ag3 Sz3 a0 rfl) (py 26 (iv k) (cb b7) (zt rfl) ?_))
  obtain ⟨r12, m0, hs⟩ := bind_some hs
  refine xf (tg := 26) (by kernel_rfl) (cb b7) Bd88 rfl (xL (M := M) a_.1 k  hO.fut m0) ?_
  rintro _ t4 ⟨rfl, g2⟩
  obtain ⟨h0, a0, hMid, hC, hO⟩ := xt5 g2 h0 a0 hMid hC hO
  refine py 26 _ (cb b7) (YJ rfl rfl) (za _ (pfb (cb b7) rfl) (zb ?_))
  cases hs
  exact ⟨_, fr_m 117 rfl, hMid⟩
 rintro f3 k6 ⟨σ, rfl, h2⟩
 obtain ⟨h0, a0, hC, hO⟩ := xt4 h2 h0 a0 hC hO
 rcases zf hs with ⟨i9, hs⟩ | ⟨i9, hs⟩
 ·refine zg (cb i9) (c_sr (za (.pointer none) (zE rfl) (ab rfl (zb (wp_ret ?_)))))
  cases hs
  have hO := hO.drop.nil
  exact ⟨_, (.pointer none), [], fr_m 117 rfl, hC, vM, hO.top⟩
 refine zh (cb i9) (wp_skip (c_sr (za (pq a5 0) (zk rfl Yo) (za _ (ld rfl Ag3 Sz3 a0 rfl) (mi rfl ?_)))))
 obtain ⟨r15, m1, hs⟩ := bind_some hs
 refine zy Bd88 rfl (xL (M := M) a_.1 k  hO.fut m1) ?_
 rintro _ m2 ⟨rfl, h3⟩
 obtain ⟨h0, a0, hC, hO⟩ := xt4 h3 h0 a0 hC hO
 refine ai rfl (zb (c_sr (mi rfl (za (.agg #[(.pointer none), (iv k), (.slice none 0 0)]) (uN rfl (by kernel_rfl)) ?_))))
 obtain ⟨m3, a1, m4, k7, h4, a2⟩ := zi m2 [(.pointer none), (iv k), (.slice none 0 0)] 108
 refine za (w' := m3) (pq a1 0) (ZW rfl (by rw [m4, k7]; kernel_rfl)) ?_
 obtain ⟨h0, a0, hC⟩ := xt3 h4 h0 a0 hC
 have hO := hO.new1 h4 k7 a2.lt
 refine ap rfl (zb (zd (c_sr (ai rfl (zb ?_)))))
 obtain ⟨o109, m5, hs⟩ := bind_some hs
 refine wp_block (zW (id := 0) k (I := fun k107 s105 a a9 => ∃ (σ : Nat → Value) (b9 : Option Addr) (c0 : Nat) (c1 : Nat) (c2 : List Nat), a = fr 117 (ovl σ [(1, (iv k)), (2, (pq a5 0)), (6, (iv r15)), (7, (pq a1 0)), (8, (iv k107))]) ∧ Chg [] w a9 ∧ Own (Nw w []) M a9 (c2 ++ (([a1]) ++ (([a5]) ++ []))) ∧ (RT.rs (RT.pr ri rl)).val M a9 (.slice pa0 pn0 pc0) a_.2 ([]) ∧ BoxV a9 a5 35 [(iv a_.1), (.slice pa0 pn0 pc0)] ∧ BoxV a9 a1 108 [(.pointer none), (iv k), (.slice b9 c0 c1)] ∧ (RT.os 43 (RT.os 3 ri)).val M a9 (.slice b9 c0 c1) s105 c2) (J := fun s105 a a9 => ∃ (σ : Nat → Value) (c3 : Option Addr) (c4 : Nat) (c5 : Nat) (j0 : List Nat), a = fr 117 (ovl σ [(2, (pq a5 0)), (6, (iv r15)), (7, (pq a1 0))]) ∧ Chg [] w a9 ∧ Own (Nw w []) M a9 (j0 ++ (([a1]) ++ (([a5]) ++ []))) ∧ (RT.rs (RT.pr ri rl)).val M a9 (.slice pa0 pn0 pc0) a_.2 ([]) ∧ BoxV a9 a5 35 [(iv a_.1), (.slice pa0 pn0 pc0)] ∧ BoxV a9 a1 108 [(.pointer none), (iv k), (.slice c3 c4 c5)] ∧ (RT.os 43 (RT.os 3 ri)).val M a9 (.slice c3 c4 c5) s105 j0) (K := (xv M w)) ?_ ?_ 0 ([]) o109 _ _ ?_ m5 ?_)
 ·rintro k107 s105 a a9 ⟨σ, b9, c0, c1, c2, rfl, hC, hO, h0, a0, a2, b3⟩ hlt
  refine zd (c_sr (mi rfl (mi rfl (za _ (zx rfl rfl) (zb (zh (cb (decide_eq_false hlt)) (wp_exit ?_)))))))
  have hO := hO.fr2.fr2.fr2
  exact ⟨rfl, _, b9, c0, c1, c2, fr_m 117 rfl, hC, hO, h0, a0, a2, b3⟩
 ·rintro k107 s105 o109 a a9 ⟨σ, b9, c0, c1, c2, rfl, hC, hO, h0, a0, a2, b3⟩ hlt hw hs
  refine zd (c_sr (mi rfl (mi rfl (za _ (zx rfl rfl) (zb (zg (cb (decide_eq_true hlt)) (wp_skip (zd (wp_block (c_sr (mi rfl ?_)))))))))))
  obtain ⟨y116, m6, hs⟩ := bind_some hs
  obtain ⟨c6, c7, c8, m7, m8, m9, f4, n0, h5⟩ := YI (M := M) (w := a9) (r := ri) Rw43 m6 (fun _ _ => ⟨rfl, rfl⟩)
  refine za (w' := m7) (.slice c6 c7 c8) (yL rfl rfl m9) ?_
  obtain ⟨h0, a0, a2, b3, hC⟩ := xt5 f4 h0 a0 a2 b3 hC
  have hO := hO.new f4 n0 (zw h5) h5.fpl
  refine ax rfl (zb (zd (c_sr (ms rfl (za _ (zn Sl43 (ZV h5) rfl) (mi rfl (zb ?_)))))))
  obtain ⟨o139, n1, hs⟩ := bind_some hs
  refine wp_block (zW (id := 2) (y116.length : Int) (I := fun k137 s135 a b0 => ∃ (σ : Nat → Value) (e6 : List Nat), a = fr 117 (ovl σ [(1, (iv k)), (2, (pq a5 0)), (6, (iv r15)), (7, (pq a1 0)), (8, (iv k107)), (9, (.slice c6 c7 c8)), (48, (iv (y116.length : Int))), (49, (iv k137))]) ∧ Chg [] w b0 ∧ Own (Nw w []) M b0 (e6 ++ (c2 ++ (([a1]) ++ (([a5]) ++ [])))) ∧ (RT.rs (RT.pr ri rl)).val M b0 (.slice pa0 pn0 pc0) a_.2 ([]) ∧ BoxV b0 a5 35 [(iv a_.1), (.slice pa0 pn0 pc0)] ∧ BoxV b0 a1 108 [(.pointer none), (iv k), (.slice b9 c0 c1)] ∧ (RT.os 43 (RT.os 3 ri)).val M b0 (.slice b9 c0 c1) s105 c2 ∧ (RT.os 3 ri).val M b0 (.slice c6 c7 c8) s135 e6) (J := fun s135 a b0 => ∃ (σ : Nat → Value) (f5 : List Nat), a = fr 117 (ovl σ [(1, (iv k)), (2, (pq a5 0)), (6, (iv r15)), (7, (pq a1 0)), (8, (iv k107)), (9, (.slice c6 c7 c8))]) ∧ Chg [] w b0 ∧ Own (Nw w []) M b0 (f5 ++ (c2 ++ (([a1]) ++ (([a5]) ++ [])))) ∧ (RT.rs (RT.pr ri rl)).val M b0 (.slice pa0 pn0 pc0) a_.2 ([]) ∧ BoxV b0 a5 35 [(iv a_.1), (.slice pa0 pn0 pc0)] ∧ BoxV b0 a1 108 [(.pointer none), (iv k), (.slice b9 c0 c1)] ∧ (RT.os 43 (RT.os 3 ri)).val M b0 (.slice b9 c0 c1) s105 c2 ∧ (RT.os 3 ri).val M b0 (.slice c6 c7 c8) s135 f5) (K := (xv M w)) ?_ ?_ 0 y116 o139 _ _ ?_ n1 ?_)
  ·rintro k137 s135 a b0 ⟨σ, e6, rfl, hC, hO, h0, a0, a2, b3, e0⟩ hlt
   refine c_sr (za _ (zx rfl rfl) (zb (zd (zh (cb (decide_eq_false hlt)) (wp_exit ?_)))))
   have hO := hO.fr3.fr3.fr3.fr3
   exact ⟨rfl, _, e6, fr_m 117 rfl, hC, hO, h0, a0, a2, b3, e0⟩
  ·rintro k137 s135 o139 a b0 ⟨σ, e6, rfl, hC, hO, h0, a0, a2, b3, e0⟩ hlt hw hs
   refine c_sr (za _ (zx rfl rfl) (zb (zd (zg (cb (decide_eq_true hlt)) (wp_skip (zd (wp_block (c_sr (mi rfl (ai rfl (zb (ze (ms rfl (mi rfl (mi rfl (mi rfl (za (pq a5 0) (zk rfl Yo) (za _ (ld rfl Ag3 Sz3 a0 rfl) ?_))))))))))))))))))
   obtain ⟨r144, n2, hs⟩ := bind_some hs
   refine zy Bd89 rfl (Xl (M := M) k137 k a_.1  hO.fut n2) ?_
   rintro _ t5 ⟨t6, t7, t8, n3, rfl, e7, j1, n4⟩
   obtain ⟨h0, a0, a2, b3, e0, hC⟩ := xt6 e7 h0 a0 a2 b3 e0 hC
   have hO := Own.join0 hO e7 n4
   have hO := hO.perm (R := n3 ++ (e6 ++ (c2 ++ (([a1]) ++ (([a5]) ++ ([])))))) (by simp)
   refine mi rfl ?_
   obtain ⟨x146, n5, hs⟩ := bind_some hs
   obtain ⟨n6, t9, u0, u1, n7, n8, u2⟩ := zR Sl43 Sz3 j1 n5
   refine za _ (n7 _ _ _ _ _ _ _ _ _ rfl rfl) (za (iv x146) (zo rfl ((zz Ag3 Sz3 n8) _ (Chg.refl _ _))) ?_)
   obtain ⟨x148, n9, hs⟩ := bind_some hs
   obtain ⟨k8, u3, k9, o0, o1, u4, u5⟩ := zR Sl43 Sz3 e0 n9
   refine za _ (o1 _ _ _ _ _ _ _ _ _ rfl rfl) ?_
   have hO := hO.fr1
   obtain ⟨o2, o3, o4, e8, o5, j2⟩ := yn (P := Try.prog) (c' := [(iv x146)]) k9 e0 o0 (fun g hg => hO.inM g (zA e0 g (by simpa using hg))) ⟨rfl, rfl⟩ List.nodup_nil (fun _ h => nomatch h) (fun _ h => .inl h)
   have f6 : ∀ q ∈ [k8], q ∈ e6 := fun q hq => zA e0 q (by rw [k9]; exact hq)
   refine Zk (w' := o2) (zV rfl rfl (o4 _ _ rfl Sz3)) ?_
   have h0 := h0.mt e8 hO f6
   have a0 := a0.ap e8 hO f6 (zl (zl (zl (zm (List.mem_singleton.2 rfl)))))
   have a2 := a2.ap e8 hO f6 (zl (zl (zm (List.mem_singleton.2 rfl))))
   have b3 := b3.ma e8 hO f6 (fun _ e => (zl (zm (e))))
   have j1 := j1.ma e8 hO f6 (fun _ e => (zm (e)))
   have hC := hC.st e8 hO f6
   have hO := hO.grow e8 (fun q hq => .inl ((o5 q hq).resolve_right (fun h => nomatch h))) (zw j2) j2.fpl
   refine zb (ze (za _ (yad rfl rfl) (mi rfl (zb ?_))))
   cases hs
   have hO := hO.fr1.drop.fr3.fr3.fr3.fr3
   exact ⟨_, o3, zD 117 ⟨rfl, rfl, rfl, rfl, rfl, rfl, rfl, congrArg (Value.int .i64) hw, trivial⟩, hC, hO, h0, a0, a2, b3, j2⟩
  ·skip
   have hO := hO.fr3.fr3.fr3.fr3
   exact ⟨_, m8, fr_m 117 rfl, hC, hO, h0, a0, a2, b3, h5⟩
  cases o139 with
  | nx _ => exact True.intro
  | rt r_ =>
   have hs := zp hs
   intro f3 i5 hK
   cases hs
   exact hK
  | br s135 =>
   have hs := zq hs
   rintro f3 b0 ⟨σ, f5, rfl, hC, hO, h0, a0, a2, b3, j3⟩
   refine ze (mp rfl (mp rfl (za _ (Zw rfl) (za (pq a1 2) (zk rfl vN) (za _ (ld rfl Ag25 Sz25 a2 rfl) (ms rfl ?_))))))
   obtain ⟨l0, h6, o6, l1, e9, l2⟩ := zi b0 [(.slice c6 c7 c8)] 43
   refine za (w' := l0) (.slice (some ⟨h6, 0, none⟩) 1 1) (zG rfl (by rw [o6, l1]; kernel_rfl)) ?_
   obtain ⟨h0, a0, a2, b3, j3, hC⟩ := xt6 e9 h0 a0 a2 b3 j3 hC
   have hO := (hO.new1 e9 l1 l2.lt).perm (R := (h6 :: ((f5) ++ ([]))) ++ (c2 ++ (([a1]) ++ (([a5]) ++ ([]))))) (by simp)
   have o7 := hO.nd
   have j4 := zT (r := (RT.os 3 ri)) (M := M) (css := [[(.slice c6 c7 c8)]]) (fps := [(f5 : List Nat)]) (xs := ([s135] : List (List Int))) l2 ⟨(Zs j3), trivial⟩ (Nat.le_of_ble_eq_true rfl) o7
   have j4 : (RT.os 43 (RT.os 3 ri)).val M l0 (.slice (some ⟨h6, 0, none⟩) 1 1) [s135] (h6 :: ((f5) ++ ([]))) := j4
   obtain ⟨y154, o8, hs⟩ := bind_some hs
   have hO := hO.fr1
   obtain ⟨h7, h8, h9, o9, p0, p1, g3, p2, g4⟩ := Yc Rw25 o8 b3 j4 hO.inM (fun g hg hq => hO.apart g hq (zm hg))
   have i0 := zA b3
   refine za (w' := o9) (.slice h7 h8 h9) (zU rfl rfl (p1 _)) ?_
   have hO := hO.fr1.fr1
   have h0 := h0.mt g3 hO i0
   have a0 := a0.ap g3 hO i0 (zl (zl (zm (List.mem_singleton.2 rfl))))
   have a2 := a2.ap g3 hO i0 (zl (zm (List.mem_singleton.2 rfl)))
   have hC := hC.st g3 hO i0
   have hO := hO.eat g3 p2 (zw g4) g4.fpl
   refine za _ (Zw rfl) (za (pq a1 2) (zk rfl vN) ?_)
   obtain ⟨l3, p3, g5, j5⟩ := ZA (P := Try.prog) a2 [(.pointer none), (iv k)] [(.slice b9 c0 c1)] [] [(.slice h7 h8 h9)] rfl rfl (by intro u hu; simp only [List.mem_cons, List.not_mem_nil, or_false] at hu; rcases hu with rfl <;> rfl)
   refine Zk (w' := l3) (zV rfl rfl (p3 _ _ rfl Sz25)) ?_
   have hO := hO.fr1
   have h0 := h0.mt g5 hO zj
   have a0 := a0.ap g5 hO zj (zl (zm (List.mem_singleton.2 rfl)))
   have g4 := g4.ma g5 hO zj (fun _ e => (zm (e)))
   have hC := hC.st g5 hO zj
   have hO := hO.ext g5
   have j5 : BoxV l3 a1 108 [(.pointer none), (iv k), (.slice h7 h8 h9)] := j5
   refine zb (ze (mi rfl (za _ (yad rfl rfl) (ai rfl (zb ?_)))))
   cases hs
   have hO := hO.fr2.fr1.fr2
   exact ⟨_, h7, h8, h9, p0, zD 117 ⟨rfl, rfl, rfl, rfl, congrArg (Value.int .i64) hw, trivial⟩, hC, hO, h0, a0, j5, g4⟩
 ·skip
  have hO := hO.fr1.fr1.nil
  exact ⟨_, none, 0, 0, [], fr_m 117 rfl, hC, hO, h0, a0, a2, xD⟩
 cases o109 with
 | nx _ => exact True.intro
 | rt r_ =>
  have hs := zp hs
  intro f3 i5 hK
  cases hs
  exact hK
 | br s105 =>
  have hs := zq hs
  rintro f3 a9 ⟨σ, c3, c4, c5, j0, rfl, hC, hO, h0, a0, a2, j6⟩
  refine zd (Ze [] Mx rfl ?_)
  have f0 := Chg.drew a9
  generalize World.drew a9 = b5 at f0 ⊢
  obtain ⟨h0, a0, a2, j6, hC, hO⟩ := xt6 f0 h0 a0 a2 j6 hC hO
  have hS := Chg.refl [] b5
  refine xl 0 rfl (ldxw rfl Ag35 a0 Sz35) hS (xmi 1 rfl rfl hS (xmp 2 rfl rfl hS (xq 3 _ rfl (Zw rfl) hS (xq 4 (pq a1 2) rfl (zk rfl vN) hS (xl 5 rfl (ldx rfl Ag25 Sz25 a2 rfl) hS (zP (i := 6) (by kernel_rfl) ?_))))))
  obtain ⟨b1, u6, p4, p5, hO, a4⟩ := xc (Frz.os (Frz.os Frz.int)) j6 hO
  have h0 := h0.sub p4
  have hK := p5
  obtain ⟨r167, p6, hs⟩ := bind_some hs
  refine zZ (b := false) rfl  Bd56 rfl (VQ (M := b1) (a_.1, a_.2) r15 s105 h0 a4 hO.fut p6) rfl (by rintro _ _ _ ⟨f7, b4, rfl, d7, l4, l5⟩; exact hS.ext d7) ?_
  rintro _ b6 ⟨f7, b4, rfl, d7, l4, l5⟩
  have hO := hO.perm (R := [] ++ (([a1]) ++ (([a5]) ++ ([])))) (by simp)
  have p7 := Own.pastL hO d7 l5
  have hK := hK.trans (show KeepsF w [] b1 (PastL b1 [] b5 b6 (b4 ++ ([]))) from KeepsF.pastL hC.size (fun g hg => (hO.inN g hg)))
  obtain ⟨h0, a0, a2, a4, hC⟩ := xt5 d7 h0 a0 a2 a4 hC
  have hO := p7
  have h0 := h0.sub (M' := (PastL b1 [] b5 b6 (b4 ++ ([])))) (fun g hg => .inl hg.1)
  have a4 := a4.sub (M' := (PastL b1 [] b5 b6 (b4 ++ ([])))) (fun g hg => .inl hg.1)
  have hO := hO.perm (R := b4 ++ (([a1]) ++ (([a5]) ++ ([])))) (by simp)
  have hS := hS.ext d7
  refine xq 7 (.tuple #[f7, (.bool r167.2)]) rfl (zt rfl) hS (xq 8 f7 rfl (zO rfl (by kernel_rfl)) hS (xq 9 (.bool r167.2) rfl (zO rfl (by kernel_rfl)) hS (xq 10 f7 rfl (zE rfl) hS (xq 11 (.bool r167.2) rfl (zE rfl) hS (Zc (by kernel_rfl) ?_)))))
  clear hS
  refine zd (c_sr (mb rfl (za _ (ZQ rfl) (zb ?_))))
  rcases zf hs with ⟨j7, hs⟩ | ⟨j7, hs⟩
  ·refine zg (cb j7) (c_sr (za (.pointer none) (zE rfl) (ab rfl (zb (wp_ret ?_)))))
   cases hs
   have hO := hO.drop.drop.drop.nil
   exact ⟨_, (.pointer none), [], fr_m 117 rfl, hC, vM, hO.top⟩
  refine zh (cb j7) (wp_skip (c_sr (za f7 (zt rfl) (za f7 (zt rfl) ?_))))
  obtain ⟨p171, p8, hs⟩ := bind_some hs
  obtain ⟨a3, rfl, p9⟩ := op_get l4 p8
  obtain ⟨u7, u9, q0, f8, q1⟩ := Ub p9
  obtain ⟨v0, v1, v2, v3, rfl, rfl, q2, q3⟩ := q1
  obtain ⟨v4, v5, v6, v7, rfl, rfl, q4, q5⟩ := q2
  obtain ⟨rfl, rfl⟩ := q4
  obtain ⟨d1, d2, d3, rfl, rfl, a7⟩ := Uh q5
  obtain ⟨v8, v9, w1, w2, rfl, rfl, q6, q7⟩ := q3
  obtain ⟨rfl, rfl⟩ := q6
  obtain ⟨w3, w4, j8, j9, rfl, rfl, q8, q9⟩ := q7
  obtain ⟨i1, i2, i3, rfl, g6⟩ := os_rel' q8
  obtain ⟨c9, rfl, g7⟩ := mo_rel' q9
  have f8 : BoxV b6 a3 81 [(iv p171.1.1), (.slice d1 d2 d3), (iv p171.2.1), (.slice i1 i2 i3), (.map (some c9))] := f8
  have hO := hO.perm (R := ([a3]) ++ (j8 ++ (j9 ++ (([a1]) ++ (([a5]) ++ ([])))))) (by rw [q0]; simp)
  refine za _ (Zw rfl) (za (pq a3 3) (zk rfl Yt) (za _ (ld rfl Ag25 Sz25 f8 rfl) ?_))
  have hO := hO.fr1
  obtain ⟨r177, r0, hs⟩ := bind_some hs
  refine zy Bd58 rfl (wB (M := (Less (PastL b1 [] b5 b6 (b4 ++ ([]))) j8)) p171.2.2.1 (((Frz.os (Frz.rs Frz.int))).val g6 Less.sub Less.not) hO.less.fut r0) ?_
  rintro _ w5 ⟨d4, d5, d6, f9, rfl, d8, a8, r1⟩
  obtain ⟨a0, a2, a4, a7, g6, g7, f8, hC⟩ := xt8 d8 a0 a2 a4 a7 g6 g7 f8 hC
  have hO := Own.join0 hO d8 r1
  have hO := hO.perm (R := f9 ++ (j8 ++ (([a3]) ++ (j9 ++ (([a1]) ++ (([a5]) ++ ([]))))))) (by simp)
  have a8 := a8.free (M' := (PastL b1 [] b5 b6 (b4 ++ ([])))) (Free.os (Free.os Free.int))
  refine za _ (Zw rfl) (za (pq a3 3) (zk rfl Yt) ?_)
  obtain ⟨l6, r2, d9, b2⟩ := ZA (P := Try.prog) f8 [(iv p171.1.1), (.slice d1 d2 d3), (iv p171.2.1)] [(.slice i1 i2 i3)] [(.map (some c9))] [(.slice d4 d5 d6)] rfl rfl (by intro u hu; simp only [List.mem_cons, List.not_mem_nil, or_false] at hu; rcases hu with rfl <;> rfl)
  refine Zk (w' := l6) (zV rfl rfl (r2 _ _ rfl Sz25)) ?_
  have hO := hO.fr2
  have a0 := a0.ap d9 hO zj (zl (zl (zl (zl (zm (List.mem_singleton.2 rfl))))))
  have a2 := a2.ap d9 hO zj (zl (zl (zl (zm (List.mem_singleton.2 rfl)))))
  have a4 := a4.mt d9 hO zj
  have a7 := a7.mt d9 hO zj
  have g6 := g6.ma d9 hO zj (fun _ e => (zl (zm (e))))
  have g7 := g7.ma d9 hO zj (fun _ e => (zl (zl (zm (e)))))
  have a8 := a8.ma d9 hO zj (fun _ e => (zm (e)))
  have hC := hC.st d9 hO zj
  have hO := hO.ext d9
  have b2 : BoxV l6 a3 81 [(iv p171.1.1), (.slice d1 d2 d3), (iv p171.2.1), (.slice d4 d5 d6), (.map (some c9))] := b2
  refine zb (zd (c_sr (mp rfl (za _ (Zw rfl) (za (pq a3 3) (zk rfl Yt) (za _ (ld rfl Ag25 Sz25 b2 rfl) (za _ (zn Sl25 (ZV a8) rfl) (mi rfl (zb ?_)))))))))
  have hO := hO.fr2.drop.fr4.drop
  obtain ⟨o201, r3, hs⟩ := bind_some hs
  refine wp_block (zW (id := 4) (r177.length : Int) (I := fun k199 s197 a a6 => ∃ (σ : Nat → Value) (g0 : List Nat), a = fr 117 (ovl σ [(7, (pq a1 0)), (11, (pq a3 0)), (97, (.slice d4 d5 d6)), (98, (iv (r177.length : Int))), (99, (iv k199))]) ∧ Chg [] w a6 ∧ Own (Nw w []) (PastL b1 [] b5 b6 (b4 ++ ([]))) a6 (([a3]) ++ (f9 ++ (g0 ++ (([a1]) ++ [])))) ∧ BoxV a6 a1 108 [(.pointer none), (iv k), (.slice c3 c4 c5)] ∧ (RT.rs rl).val (PastL b1 [] b5 b6 (b4 ++ ([]))) a6 (.slice c3 c4 c5) s105 ([]) ∧ (RT.rs (RT.pr ri rl)).val (PastL b1 [] b5 b6 (b4 ++ ([]))) a6 (.slice d1 d2 d3) p171.1.2 ([]) ∧ (RT.mo (Value.int .i64)).val (PastL b1 [] b5 b6 (b4 ++ ([]))) a6 (.map (some c9)) s197 g0 ∧ BoxV a6 a3 81 [(iv p171.1.1), (.slice d1 d2 d3), (iv p171.2.1), (.slice d4 d5 d6), (.map (some c9))] ∧ (RT.os 43 (RT.os 3 ri)).val (PastL b1 [] b5 b6 (b4 ++ ([]))) a6 (.slice d4 d5 d6) r177 f9) (J := fun s197 a a6 => ∃ (σ : Nat → Value) (e1 : List Nat), a = fr 117 (ovl σ [(7, (pq a1 0)), (11, (pq a3 0))]) ∧ Chg [] w a6 ∧ Own (Nw w []) (PastL b1 [] b5 b6 (b4 ++ ([]))) a6 (([a3]) ++ (f9 ++ (e1 ++ (([a1]) ++ [])))) ∧ BoxV a6 a1 108 [(.pointer none), (iv k), (.slice c3 c4 c5)] ∧ (RT.rs rl).val (PastL b1 [] b5 b6 (b4 ++ ([]))) a6 (.slice c3 c4 c5) s105 ([]) ∧ (RT.rs (RT.pr ri rl)).val (PastL b1 [] b5 b6 (b4 ++ ([]))) a6 (.slice d1 d2 d3) p171.1.2 ([]) ∧ (RT.mo (Value.int .i64)).val (PastL b1 [] b5 b6 (b4 ++ ([]))) a6 (.map (some c9)) s197 e1 ∧ BoxV a6 a3 81 [(iv p171.1.1), (.slice d1 d2 d3), (iv p171.2.1), (.slice d4 d5 d6), (.map (some c9))] ∧ (RT.os 43 (RT.os 3 ri)).val (PastL b1 [] b5 b6 (b4 ++ ([]))) a6 (.slice d4 d5 d6) r177 f9) (K := (xv M w)) ?_ ?_ 0 p171.2.2.2 o201 _ _ ?_ r3 ?_)
  ·rintro k199 s197 a a6 ⟨σ, g0, rfl, hC, hO, a2, a4, a7, f1, b2, a8⟩ hlt
   refine c_sr (za _ (zx rfl rfl) (zb (zd (zh (cb (decide_eq_false hlt)) (wp_exit ?_)))))
   have hO := hO.fr3.fr3.fr3.fr3
   exact ⟨rfl, _, g0, fr_m 117 rfl, hC, hO, a2, a4, a7, f1, b2, a8⟩
  ·rintro k199 s197 o201 a a6 ⟨σ, g0, rfl, hC, hO, a2, a4, a7, f1, b2, a8⟩ hlt hw hs
   refine c_sr (za _ (zx rfl rfl) (zb (zd (zg (cb (decide_eq_true hlt)) (wp_skip (zd (wp_block (c_sr (mi rfl ?_)))))))))
   obtain ⟨x205, r4, hs⟩ := bind_some hs
   obtain ⟨r5, w6, w7, w8, r6, r8, r9⟩ := zR Sl25 Sz43 a8 r4
   have s0 := Zv (Frz.os Frz.int) r8 r9
   refine za _ (r6 _ _ _ _ _ _ _ _ _ rfl rfl) ?_
   obtain ⟨w9, s1, hrow207, e2⟩ := ZG Ag43 Sz43 rfl rfl s0
   obtain ⟨k0, k1, k2, rfl⟩ := yd e2
   refine za (.slice k0 k1 k2) (zo rfl (s1 _ (Chg.refl _ _))) (ai rfl (ax rfl (zb (Ze [7] Mx rfl ?_))))
   have d0 := Chg.drew a6
   generalize World.drew a6 = s2 at d0 ⊢
   obtain ⟨a2, a4, a7, f1, b2, a8, e2, hrow207⟩ := xt8 d0 a2 a4 a7 f1 b2 a8 e2 hrow207
   obtain ⟨hC, hO⟩ := xt2 d0 hC hO
   have hS := Chg.refl [] s2
   refine xmp 0 rfl rfl hS (xq 1 _ rfl (Zw rfl) hS (xq 2 (pq a3 4) rfl (zk rfl VH) hS (xl 3 rfl (ldx rfl Ag79 Sz79 b2 rfl) hS (xms 4 rfl rfl hS (xmi 6 rfl rfl hS (zP (i := 5) (by kernel_rfl) ?_))))))
   have hO := hO.fr1
   obtain ⟨r211, s4, hs⟩ := bind_some hs
   refine zZ (b := false) rfl  Bd59 rfl (xg (M := (Less (PastL b1 [] b5 b6 (b4 ++ ([]))) f9)) x205 e2 hO.less.fut s4) rfl (by rintro _ _ _ ⟨rfl, b8⟩; exact hS.ext b8) ?_
   rintro _ x0 ⟨rfl, b8⟩
   obtain ⟨a2, a4, a7, f1, b2, a8, e2, hrow207⟩ := xt8 b8 a2 a4 a7 f1 b2 a8 e2 hrow207
   obtain ⟨hC, hO, hS⟩ := xt3 b8 hC hO hS
   refine zP (i := 7) (by kernel_rfl) ?_
   have hO := hO.fr2
   obtain ⟨s5, s6, e3, s7⟩ := mo_put (P := Try.prog) (t := 79) (key := r211) (x := k199) Try.underlying79 Try.underlying9 f1
   refine Ug (w' := s5) (b := true) rfl (ys_put rfl rfl rfl s6) rfl (fun h => nomatch h) ?_
   have a2 := a2.ap e3 hO zj (zl (zl (zm (List.mem_singleton.2 rfl))))
   have a4 := a4.mt e3 hO zj
   have a7 := a7.mt e3 hO zj
   have b2 := b2.ap e3 hO zj (zl (zm (List.mem_singleton.2 rfl)))
   have a8 := a8.ma e3 hO zj (fun _ e => (zm (e)))
   have e2 := e2.mut e3 (fun g hg => ⟨hO.inM g ((fun _ h => h) g hg), fun e => hO.apart g ((fun _ h => h) g hg) (zm (e))⟩) (fun _ _ h => nomatch h)
   have hC := hC.st e3 hO zj
   have hO := hO.ext e3
   refine Zc (by kernel_rfl) ?_
   clear hS
   refine ze (za _ (yad rfl rfl) (mi rfl (zb ?_)))
   cases hs
   have hO := hO.fr3.fr1.fr2.fr3
   exact ⟨_, g0, zD 117 ⟨rfl, rfl, rfl, rfl, congrArg (Value.int .i64) hw, trivial⟩, hC, hO, a2, a4, a7, s7, b2, a8⟩
  ·skip
   have hO := hO.fr3.fr3.fr3.fr3
   exact ⟨_, j9, fr_m 117 rfl, hC, hO, a2, a4, a7, g7, b2, a8⟩
  cases o201 with
  | nx _ => exact True.intro
  | rt r_ =>
   have hs := zp hs
   intro f3 i5 hK
   cases hs
   exact hK
  | br s197 =>
   have hs := zq hs
   rintro f3 a6 ⟨σ, e1, rfl, hC, hO, a2, a4, a7, g8, b2, a8⟩
   refine c_sr (mp rfl (mp rfl (za _ (Zw rfl) (za (pq a1 0) (zk rfl Fa108x0) ?_))))
   obtain ⟨i4, s8, f2, k3⟩ := ZA (P := Try.prog) a2 [] [(.pointer none)] [(iv k), (.slice c3 c4 c5)] [(pq a3 0)] rfl rfl (by intro u hu; simp only [List.mem_cons, List.not_mem_nil, or_false] at hu; rcases hu with rfl <;> rfl)
   refine Zk (w' := i4) (zV rfl rfl (s8 _ _ rfl Sz76)) ?_
   have hO := hO.fr3
   have a4 := a4.mt f2 hO zj
   have a7 := a7.mt f2 hO zj
   have g8 := g8.ma f2 hO zj (fun _ e => (zl (zl (zm (e)))))
   have b2 := b2.ap f2 hO zj (zm (List.mem_singleton.2 rfl))
   have a8 := a8.ma f2 hO zj (fun _ e => (zl (zm (e))))
   have hC := hC.st f2 hO zj
   have hO := hO.ext f2
   have k3 : BoxV i4 a1 108 [(pq a3 0), (iv k), (.slice c3 c4 c5)] := k3
   refine zb (c_sr (mp rfl (ap rfl (ab rfl (zb (wp_ret ?_))))))
   have hO := hO.fr2
   obtain ⟨g9, h1, k4, s9, hO, t0⟩ := un (Frz.os Frz.int) a8 hO
   have a4 := a4.sub k4
   have a7 := a7.sub k4
   have g8 := g8.sub k4
   have hK := hK.trans s9
   have hO := hO.fr3.fr1.fr3.perm (R := (a3 :: ((([] : List Nat) ++ ([] : List Nat)) ++ (([] : List Nat) ++ (h1 ++ e1)))) ++ (([a1]) ++ ([]))) (by simp)
   have t1 : (RT.po 81 (RT.pr (RT.pr ri (RT.rs (RT.pr ri rl))) (RT.pr ri (RT.pr (RT.os 43 rl) (RT.mo (Value.int .i64)))))).val g9 i4 (pq a3 0) ((p171.1.1, p171.1.2), p171.2.1, r177, s197) (a3 :: ((([] : List Nat) ++ ([] : List Nat)) ++ (([] : List Nat) ++ (h1 ++ e1)))) := Uk b2 ⟨_, _, _, _, rfl, rfl, ⟨_, _, _, _, rfl, rfl, ⟨rfl, rfl⟩, (yq a7)⟩, ⟨_, _, _, _, rfl, rfl, ⟨rfl, rfl⟩, ⟨_, _, _, _, rfl, rfl, (Zs t0), (zae g8)⟩⟩⟩ hO.nd
   have hO := hO.fr1.perm (R := (a1 :: ((a3 :: ((([] : List Nat) ++ ([] : List Nat)) ++ (([] : List Nat) ++ (h1 ++ e1)))) ++ (([] : List Nat) ++ ([] : List Nat)))) ++ ([])) (by simp)
   have t2 : (RT.po 108 (RT.pr (RT.po 81 (RT.pr (RT.pr ri (RT.rs (RT.pr ri rl))) (RT.pr ri (RT.pr (RT.os 43 rl) (RT.mo (Value.int .i64)))))) (RT.pr ri (RT.rs rl)))).val g9 i4 (pq a1 0) (((p171.1.1, p171.1.2), p171.2.1, r177, s197), k, s105) (a1 :: ((a3 :: ((([] : List Nat) ++ ([] : List Nat)) ++ (([] : List Nat) ++ (h1 ++ e1)))) ++ (([] : List Nat) ++ ([] : List Nat)))) := Uk k3 ⟨_, _, _, _, rfl, rfl, (po_unval t1), ⟨_, _, _, _, rfl, rfl, ⟨rfl, rfl⟩, (yq a4)⟩⟩ hO.nd
   cases hs
   exact ⟨_, (pq a1 0), (a1 :: ((a3 :: ((([] : List Nat) ++ ([] : List Nat)) ++ (([] : List Nat) ++ (h1 ++ e1)))) ++ (([] : List Nat) ++ ([] : List Nat)))), fr_m 117 rfl, hC, (KeepsF.out hK hO.allM (op_some t2)), hO.top⟩

def yk (M : Nat → Prop) (w0 : World) (r : (List (List Int))) (a : Act) (w : World) : Prop :=
  ∃ (σ : Nat → Value) (ra0 : Option Addr) (rn0 rc0 : Nat) (rf0 : List Nat), a = fr 92 (ovl σ [(2, (.slice ra0 rn0 rc0))]) ∧ Chg [] w0 w ∧ (RT.os 43 (RT.os 3 (RT.int .i64))).val M w (.slice ra0 rn0 rc0) r rf0 ∧ Own (Nw w0 []) (fun _ => True) w (rf0 ++ ([]))
def ZH (b0 : Int × (List (Int × (List Int))) × Int × (List (List Int)) × (List (ByteArray × Int))) : Option ((List (List Int))) :=
  (forR (S := (List (List Int))) (R := (List (List Int))) (fun _ x596 s593 =>
  (ZX (b0.2.2.2.1.length : Int) x596.1).bind fun r618 =>
  (mks r618 (0 : Int)).bind fun y620 =>
  (mks x596.1 ([] : List Int)).bind fun y623 =>
  (forC (S := (List Int) × (List (List Int))) (R := (List (List Int))) (fun k827 s825 =>
  (yi k827 x596.1 (b0.2.2.2.1.length : Int)).bind fun r843 =>
  (forC (S := (List (List Int))) (R := (List (List Int))) (fun k866 s864 =>
  (idx r843 k866).bind fun x872 =>
  (idx b0.2.2.2.1 x872).bind fun x874 =>
  (idx s864 k866).bind fun x878 =>
  some (.nx (List.set s864 (Int.toNat k866) x874))) 0 (r843.length : Int) s825.2).bind fun o868 => after o868 (fun r_ => some (.rt r_)) (fun s864 =>
  (ZN (b0.1, b0.2.1) (x596.1, x596.2) b0.2.2.1 s864).bind fun r883 =>
  (Zu r883).bind fun r886 =>
  (idx s825.1 k827).bind fun x887 =>
  some (.nx (List.set s825.1 (Int.toNat k827) ((mget b0.2.2.2.2 r886).getD 0), s864)))) 0 (y620.length : Int) (y620, y623)).bind fun o829 => after o829 (fun r_ => some (.rt r_)) (fun s825 =>
  (app s593 ([s825.1])).bind fun y893 =>
  some (.nx y893))) 0 b0.2.1 ([])).bind fun o597 => after o597 (fun r_ => some r_) (fun s593 =>
  some s593)
set_option maxHeartbeats 4000000 in
theorem Xj {M : Nat → Prop} {w : World} {vg0 : Nat} {va0x1 : Option Addr} {vn0x1 vc0x1 : Nat} {va0x3 : Option Addr} {vn0x3 vc0x3 : Nat} {vn0x4 : Nat} (b0 : Int × (List (Int × (List Int))) × Int × (List (List Int)) × (List (ByteArray × Int))) (hb0 : RBox M w vg0 81 [(iv b0.1), (.slice va0x1 vn0x1 vc0x1), (iv b0.2.2.1), (.slice va0x3 vn0x3 vc0x3), (.map (some vn0x4))]) (hl0x1 : (RT.rs (RT.pr ri rl)).val M w (.slice va0x1 vn0x1 vc0x1) b0.2.1 ([])) (hl0x3 : (RT.rs rl).val M w (.slice va0x3 vn0x3 vc0x3) b0.2.2.2.1 ([])) (hl0x4 : (RT.mr (Value.int .i64)).val M w (.map (some vn0x4)) b0.2.2.2.2 ([])) (hM : ∀ g, w.heap.size ≤ g → M g) {r : (List (List Int))} (hs : ZH b0 = some r) :
    Gives Try.prog 102 [(pq vg0 0)] w (fun v w' => ∃ (ra0 : Option Addr) (rn0 rc0 : Nat) (rf0 : List Nat), v = (.slice ra0 rn0 rc0) ∧ Chg [] w w' ∧ (RT.os 43 (RT.os 3 ri)).val M w' (.slice ra0 rn0 rc0) r rf0 ∧ Own (Nw w []) (fun _ => True) w' (rf0 ++ ([]))) := by
 refine zr Try.func102 rfl Try.ntmps102 (Nat.le_of_ble_eq_true rfl) ?_
 have hO := Own.start (N := Nw w []) hM Nw.fut
 have hC := Chg.refl [] w
 unfold ZH at hs
 refine wp_k (K := (yk M w r)) (by rintro _ _ ⟨σ, ra0, rn0, rc0, rf0, rfl, hrest⟩; exact Zh Try.results102 (zB rfl) ⟨ra0, rn0, rc0, rf0, rfl, hrest⟩) (c_sr (ax rfl (zb (c_sr ?_))))
 obtain ⟨i7, f5, k6, i9, f6, j0⟩ := zi w [] 43
 refine za (w' := i7) (.slice (some ⟨f5, 0, none⟩) 0 0) (zG rfl (by rw [k6, i9]; kernel_rfl)) ?_
 obtain ⟨hl0x1, hl0x3, hl0x4, hb0, hC⟩ := xt5 f6 hl0x1 hl0x3 hl0x4 hb0 hC
 have hO := hO.new1 f6 i9 j0.lt
 have h5 := os0 (r := (RT.os 3 ri)) (M := M) j0
 refine ax rfl (zb (zd (c_sr (mp rfl (za _ (Zw rfl) (za (pq vg0 0) (zk rfl vV) (za (pq vg0 1) (zk rfl ZD) (za _ (ld rfl Ag33 Sz33 hb0.1 rfl) (za _ (zn Sl33 (zu hl0x1) rfl) (mi rfl (zb ?_)))))))))))
 obtain ⟨o597, k7, hs⟩ := bind_some hs
 refine wp_block (YM (id := 0) (I := fun i_ xs_ s593 a a7 => ∃ c5 : Nat, i_ = (c5 : Int) ∧ List.drop c5 b0.2.1 = xs_ ∧ (∃ (σ : Nat → Value) (c6 : Nat → Prop) (c0 : Option Addr) (c1 : Nat) (c2 : Nat) (b1 : List Nat), a = fr 92 (ovl σ [(0, (pq vg0 0)), (3, (.slice c0 c1 c2)), (16, (.slice va0x1 vn0x1 vc0x1)), (17, (iv (b0.2.1.length : Int))), (18, (iv (c5 : Int)))]) ∧ Chg [] w a7 ∧ Own (Nw w []) c6 a7 (b1 ++ []) ∧ Keeps w M c6 ∧ (RT.rs (RT.pr ri rl)).val c6 a7 (.slice va0x1 vn0x1 vc0x1) b0.2.1 ([]) ∧ (RT.rs rl).val c6 a7 (.slice va0x3 vn0x3 vc0x3) b0.2.2.2.1 ([]) ∧ (RT.mr (Value.int .i64)).val c6 a7 (.map (some vn0x4)) b0.2.2.2.2 ([]) ∧ RBox c6 a7 vg0 81 [(iv b0.1), (.slice va0x1 vn0x1 vc0x1), (iv b0.2.2.1), (.slice va0x3 vn0x3 vc0x3), (.map (some vn0x4))] ∧ (RT.os 43 (RT.os 3 ri)).val c6 a7 (.slice c0 c1 c2) s593 b1)) (J := fun s593 a a7 => ∃ (σ : Nat → Value) (e5 : Nat → Prop) (f7 : Option Addr) (f8 : Nat) (f9 : Nat) (g5 : List Nat), a = fr 92 (ovl σ [(3, (.slice f7 f8 f9))]) ∧ Chg [] w a7 ∧ Own (Nw w []) e5 a7 (g5 ++ []) ∧ Keeps w M e5 ∧ (RT.rs (RT.pr ri rl)).val e5 a7 (.slice va0x1 vn0x1 vc0x1) b0.2.1 ([]) ∧ (RT.rs rl).val e5 a7 (.slice va0x3 vn0x3 vc0x3) b0.2.2.2.1 ([]) ∧ (RT.mr (Value.int .i64)).val e5 a7 (.map (some vn0x4)) b0.2.2.2.2 ([]) ∧ RBox e5 a7 vg0 81 [(iv b0.1), (.slice va0x1 vn0x1 vc0x1), (iv b0.2.2.1), (.slice va0x3 vn0x3 vc0x3), (.map (some vn0x4))] ∧ (RT.os 43 (RT.os 3 ri)).val e5 a7 (.slice f7 f8 f9) s593 g5) (K := (yk M w)) ?_ ?_ b0.2.1 0 ([]) o597 _ _ ?_ k7 ?_)
 ·rintro _ s593 a a7 ⟨c5, rfl, hd, σ, c6, c0, c1, c2, b1, rfl, hC, hO, hK, hl0x1, hl0x3, hl0x4, hb0, a0⟩
  have hlt := yb hd
  refine c_sr (za _ (zx rfl rfl) (zb (zd (zh (cb (decide_eq_false hlt)) (wp_exit ?_)))))
  exact ⟨rfl, _, c6, c0, c1, c2, b1, fr_m 92 rfl, hC, hO, hK, hl0x1, hl0x3, hl0x4, hb0, a0⟩
 ·rintro _ x596 xs_ s593 o597 a a7 ⟨c5, rfl, hd, σ, c6, c0, c1, c2, b1, rfl, hC, hO, hK, hl0x1, hl0x3, hl0x4, hb0, a0⟩ hs
  have hlt := ZJ hd
  have k8 := Zz hd
  refine c_sr (za _ (zx rfl rfl) (zb (zd (zg (cb (decide_eq_true hlt)) (wp_skip (zd (wp_block (c_sr ?_))))))))
  obtain ⟨k9, l0, l1, h6⟩ := zN Sl33 Sz89 hl0x1 k8
  refine za _ (l1 _ _ _ _ _ _ _ _ _ rfl rfl) ?_
  obtain ⟨r7, l2, l3⟩ := Zj Ag89 Sz89 (by intro h; cases h) h6
  obtain ⟨r8, rfl, l4⟩ := l3
  obtain ⟨r9, s0, rfl, l5, l6⟩ := Yz l4
  obtain rfl := YN l5
  obtain ⟨b2, b3, b4, rfl, a1⟩ := xp l6
  refine za (.agg #[(iv x596.1), (.slice b2 b3 b4)]) (zo rfl (l2 _ (Chg.refl _ _))) ?_
  obtain ⟨l7, a8, l8, j1, e3, j2⟩ := zi a7 [(iv 0), (.slice none 0 0)] 89
  refine za (w' := l7) (pq a8 0) (xa (by rw [l8, j1]; kernel_rfl)) ?_
  obtain ⟨hl0x1, hl0x3, hl0x4, hb0, a0, a1, h6, hC⟩ := xt8 e3 hl0x1 hl0x3 hl0x4 hb0 a0 a1 h6 hC
  have hO := hO.new1 e3 j1 j2.lt
  obtain ⟨g6, l9, e6, a2⟩ := ZA (P := Try.prog) j2 [] [(iv 0), (.slice none 0 0)] [] [(iv x596.1), (.slice b2 b3 b4)] rfl rfl (by intro u hu; simp only [List.mem_cons, List.not_mem_nil, or_false] at hu; rcases hu with rfl | rfl <;> rfl)
  refine Zk (w' := g6) (zV rfl rfl (l9 _ _ rfl Sz89)) ?_
  have hl0x1 := hl0x1.mt e6 hO zj
  have hl0x3 := hl0x3.mt e6 hO zj
  have hl0x4 := hl0x4.mt e6 hO zj
  have hb0 := hb0.mut e6 (fun q hq => hO.inM q ((fun _ h => h) q hq))
  have a0 := a0.ma e6 hO zj (fun _ e => (zm (e)))
  have a1 := a1.mt e6 hO zj
  have hC := hC.st e6 hO zj
  have hO := hO.ext e6
  have a2 : BoxV g6 a8 89 [(iv x596.1), (.slice b2 b3 b4)] := a2
  refine zb (zd (Ze [] Mx rfl ?_))
  have e0 := Chg.drew g6
  generalize World.drew g6 = m0 at e0 ⊢
  obtain ⟨hl0x1, hl0x3, hl0x4, hb0, a0, a1, a2, hC⟩ := xt8 e0 hl0x1 hl0x3 hl0x4 hb0 a0 a1 a2 hC
  have hO := hO.ext e0
  have hS := Chg.refl [] m0
  refine xmp 0 rfl rfl hS (xq 1 _ rfl (Zw rfl) hS (xq 2 (pq vg0 3) rfl (zk rfl Yt) hS (xl 3 rfl (ldx rfl Ag25 Sz25 hb0.1 rfl) hS (xq 4 _ rfl (zn Sl25 (zu hl0x3) rfl) hS (xq 5 (pq a8 0) rfl (zk rfl yM) hS (xl 6 rfl (ldx rfl Ag3 Sz3 a2 rfl) hS (zP (i := 7) (by kernel_rfl) ?_)))))))
  obtain ⟨r618, m1, hs⟩ := bind_some hs
  refine zZ (b := false) rfl  Bd88 rfl (xL (M := c6) (b0.2.2.2.1.length : Int) x596.1  hO.fut m1) rfl (by rintro _ _ _ ⟨rfl, c8⟩; exact hS.ext c8) ?_
  rintro _ m2 ⟨rfl, c8⟩
  obtain ⟨hl0x1, hl0x3, hl0x4, hb0, a0, a1, a2, hC⟩ := xt8 c8 hl0x1 hl0x3 hl0x4 hb0 a0 a1 a2 hC
  obtain ⟨hO, hS⟩ := xt2 c8 hO hS
  refine zP (i := 8) (by kernel_rfl) ?_
  obtain ⟨y620, m3, hs⟩ := bind_some hs
  obtain ⟨b6, b7, b8, j3, m4, m5, d3, m6, e7⟩ := YI (M := c6) (w := m2) (r := ri) Rw43 m3 (fun _ _ => ⟨rfl, rfl⟩)
  refine zS (w' := j3) (b := false) (.slice b6 b7 b8) rfl  (yL rfl rfl m5) rfl (fun _ => hS.ext d3) ?_
  obtain ⟨hl0x1, hl0x3, hl0x4, hb0, a0, a1, a2, hC⟩ := xt8 d3 hl0x1 hl0x3 hl0x4 hb0 a0 a1 a2 hC
  have hO := hO.new d3 m6 (zw e7) e7.fpl
  have hS := hS.ext d3
  refine xq 9 (.slice b6 b7 b8) rfl (zE rfl) hS (Zc (by kernel_rfl) ?_)
  clear hS
  refine c_sr (za (pq a8 0) (zk rfl yM) (za _ (ld rfl Ag3 Sz3 a2 rfl) ?_))
  obtain ⟨y623, m7, hs⟩ := bind_some hs
  obtain ⟨d4, d5, d6, m8, s1, m9, e1, n0, h7⟩ := YI (M := c6) (w := j3) (r := (RT.os 3 ri)) Rw25 m7 (fun _ _ => (Zs xD))
  refine za (w' := m8) (.slice d4 d5 d6) (yL rfl rfl m9) ?_
  obtain ⟨hl0x1, hl0x3, hl0x4, hb0, a0, a1, a2, e7⟩ := xt8 e1 hl0x1 hl0x3 hl0x4 hb0 a0 a1 a2 e7
  have hC := hC.ext e1
  have hO := hO.new e1 n0 (zw h7) h7.fpl
  refine ax rfl (zb (zd (c_sr (ms rfl (za _ (zn Sl43 (ZV e7) rfl) (mi rfl (zb ?_)))))))
  obtain ⟨e8, n1, f1, n2, hO, n3⟩ := xA (Frz.os Frz.int) h7 hO
  have hl0x1 := hl0x1.sub f1
  have hl0x3 := hl0x3.sub f1
  have hl0x4 := hl0x4.sub f1
  have hb0 := hb0.sub f1
  have a0 := a0.sub f1
  have a1 := a1.sub f1
  have e7 := e7.sub f1
  have hK := hK.trans n2
  obtain ⟨o829, n4, hs⟩ := bind_some hs
  refine wp_block (zW (id := 2) (y620.length : Int) (I := fun k827 s825 a a5 => ∃ (σ : Nat → Value) (a3 : Nat → Prop) (c9 : List Nat) (f2 : List Nat), a = fr 92 (ovl σ [(0, (pq vg0 0)), (3, (.slice c0 c1 c2)), (5, (pq a8 0)), (6, (.slice b6 b7 b8)), (7, (.slice d4 d5 d6)), (16, (.slice va0x1 vn0x1 vc0x1)), (17, (iv (b0.2.1.length : Int))), (18, (iv (c5 : Int))), (35, (iv (y620.length : Int))), (36, (iv k827))]) ∧ Chg [] w a5 ∧ Own (Nw w []) a3 a5 (f2 ++ (c9 ++ (([a8]) ++ (b1 ++ [])))) ∧ Keeps w M a3 ∧ (RT.rs (RT.pr ri rl)).val a3 a5 (.slice va0x1 vn0x1 vc0x1) b0.2.1 ([]) ∧ (RT.rs rl).val a3 a5 (.slice va0x3 vn0x3 vc0x3) b0.2.2.2.1 ([]) ∧ (RT.mr (Value.int .i64)).val a3 a5 (.map (some vn0x4)) b0.2.2.2.2 ([]) ∧ RBox a3 a5 vg0 81 [(iv b0.1), (.slice va0x1 vn0x1 vc0x1), (iv b0.2.2.1), (.slice va0x3 vn0x3 vc0x3), (.map (some vn0x4))] ∧ (RT.os 43 (RT.os 3 ri)).val a3 a5 (.slice c0 c1 c2) s593 b1 ∧ rl.val a3 a5 (.slice b2 b3 b4) x596.2 ([]) ∧ BoxV a5 a8 89 [(iv x596.1), (.slice b2 b3 b4)] ∧ (RT.os 3 ri).val a3 a5 (.slice b6 b7 b8) s825.1 c9 ∧ (RT.os 43 rl).val a3 a5 (.slice d4 d5 d6) s825.2 f2) (J := fun s825 a a5 => ∃ (σ : Nat → Value) (c3 : Nat → Prop) (g0 : List Nat) (g7 : List Nat), a = fr 92 (ovl σ [(0, (pq vg0 0)), (3, (.slice c0 c1 c2)), (6, (.slice b6 b7 b8)), (16, (.slice va0x1 vn0x1 vc0x1)), (17, (iv (b0.2.1.length : Int))), (18, (iv (c5 : Int)))]) ∧ Chg [] w a5 ∧ Own (Nw w []) c3 a5 (g7 ++ (g0 ++ (([a8]) ++ (b1 ++ [])))) ∧ Keeps w M c3 ∧ (RT.rs (RT.pr ri rl)).val c3 a5 (.slice va0x1 vn0x1 vc0x1) b0.2.1 ([]) ∧ (RT.rs rl).val c3 a5 (.slice va0x3 vn0x3 vc0x3) b0.2.2.2.1 ([]) ∧ (RT.mr (Value.int .i64)).val c3 a5 (.map (some vn0x4)) b0.2.2.2.2 ([]) ∧ RBox c3 a5 vg0 81 [(iv b0.1), (.slice va0x1 vn0x1 vc0x1), (iv b0.2.2.1), (.slice va0x3 vn0x3 vc0x3), (.map (some vn0x4))] ∧ (RT.os 43 (RT.os 3 ri)).val c3 a5 (.slice c0 c1 c2) s593 b1 ∧ rl.val c3 a5 (.slice b2 b3 b4) x596.2 ([]) ∧ BoxV a5 a8 89 [(iv x596.1), (.slice b2 b3 b4)] ∧ (RT.os 3 ri).val c3 a5 (.slice b6 b7 b8) s825.1 g0 ∧ (RT.os 43 rl).val c3 a5 (.slice d4 d5 d6) s825.2 g7) (K := (yk M w)) ?_ ?_ 0 (y620, y623) o829 _ _ ?_ n4 ?_)
  ·rintro k827 s825 a a5 ⟨σ, a3, c9, f2, rfl, hC, hO, hK, hl0x1, hl0x3, hl0x4, hb0, a0, a1, a2, a6, f3⟩ hlt
   refine c_sr (za _ (zx rfl rfl) (zb (zd (zh (cb (decide_eq_false hlt)) (wp_exit ?_)))))
   have hO := hO.fr3.fr3.fr3.fr3
   exact ⟨rfl, _, a3, c9, f2, fr_m 92 rfl, hC, hO, hK, hl0x1, hl0x3, hl0x4, hb0, a0, a1, a2, a6, f3⟩
  ·rintro k827 s825 o829 a a5 ⟨σ, a3, c9, f2, rfl, hC, hO, hK, hl0x1, hl0x3, hl0x4, hb0, a0, a1, a2, a6, f3⟩ hlt hw hs
   refine c_sr (za _ (zx rfl rfl) (zb (zd (zg (cb (decide_eq_true hlt)) (wp_skip (zd (wp_block (c_sr (mi rfl (ai rfl (zb (zd (zd (Ze [] Mx rfl ?_))))))))))))))
   have d0 := Chg.drew a5
   generalize World.drew a5 = n5 at d0 ⊢
   obtain ⟨hl0x1, hl0x3, hl0x4, hb0, a0, a1, a2, a6⟩ := xt8 d0 hl0x1 hl0x3 hl0x4 hb0 a0 a1 a2 a6
   obtain ⟨f3, hC, hO⟩ := xt3 d0 f3 hC hO
   have hS := Chg.refl [] n5
   refine xmi 0 rfl rfl hS (xq 1 (pq a8 0) rfl (zk rfl yM) hS (xl 2 rfl (ldx rfl Ag3 Sz3 a2 rfl) hS (xmp 3 rfl rfl hS (xq 4 _ rfl (Zw rfl) hS (xq 5 (pq vg0 3) rfl (zk rfl Yt) hS (xl 6 rfl (ldx rfl Ag25 Sz25 hb0.1 rfl) hS (xq 7 _ rfl (zn Sl25 (zu hl0x3) rfl) hS (xmi 10 rfl rfl hS (zP (i := 8) (by kernel_rfl) ?_)))))))))
   obtain ⟨r843, n6, hs⟩ := bind_some hs
   refine zZ (b := false) rfl  Bd89 rfl (Xl (M := a3) k827 x596.1 (b0.2.2.2.1.length : Int)  hO.fut n6) rfl (by rintro _ _ _ ⟨g8, g9, h0, f4, rfl, c4, a9, j4⟩; exact hS.ext c4) ?_
   rintro _ s2 ⟨g8, g9, h0, f4, rfl, c4, a9, j4⟩
   obtain ⟨hl0x1, hl0x3, hl0x4, hb0, a0, a1, a2, a6⟩ := xt8 c4 hl0x1 hl0x3 hl0x4 hb0 a0 a1 a2 a6
   obtain ⟨f3, hC⟩ := xt2 c4 f3 hC
   have hO := Own.join0 hO c4 j4
   have hO := hO.perm (R := f4 ++ (f2 ++ (c9 ++ (([a8]) ++ (b1 ++ ([])))))) (by simp)
   have hS := hS.ext c4
   refine xq 9 _ rfl (zn Sl43 (ZV a9) rfl) hS (Zc (by kernel_rfl) ?_)
   clear hS
   obtain ⟨o868, n7, hs⟩ := bind_some hs
   refine wp_block (zW (id := 4) (r843.length : Int) (I := fun k866 s864 a a4 => ∃ (σ : Nat → Value) (g1 : List Nat), a = fr 92 (ovl σ [(0, (pq vg0 0)), (3, (.slice c0 c1 c2)), (5, (pq a8 0)), (6, (.slice b6 b7 b8)), (7, (.slice d4 d5 d6)), (8, (iv k827)), (16, (.slice va0x1 vn0x1 vc0x1)), (17, (iv (b0.2.1.length : Int))), (18, (iv (c5 : Int))), (35, (iv (y620.length : Int))), (36, (iv k827)), (47, (.slice g8 g9 h0)), (48, (iv (r843.length : Int))), (49, (iv k866))]) ∧ Chg [] w a4 ∧ Own (Nw w []) a3 a4 (f4 ++ (g1 ++ (c9 ++ (([a8]) ++ (b1 ++ []))))) ∧ (RT.rs (RT.pr ri rl)).val a3 a4 (.slice va0x1 vn0x1 vc0x1) b0.2.1 ([]) ∧ (RT.rs rl).val a3 a4 (.slice va0x3 vn0x3 vc0x3) b0.2.2.2.1 ([]) ∧ (RT.mr (Value.int .i64)).val a3 a4 (.map (some vn0x4)) b0.2.2.2.2 ([]) ∧ RBox a3 a4 vg0 81 [(iv b0.1), (.slice va0x1 vn0x1 vc0x1), (iv b0.2.2.1), (.slice va0x3 vn0x3 vc0x3), (.map (some vn0x4))] ∧ (RT.os 43 (RT.os 3 ri)).val a3 a4 (.slice c0 c1 c2) s593 b1 ∧ rl.val a3 a4 (.slice b2 b3 b4) x596.2 ([]) ∧ BoxV a4 a8 89 [(iv x596.1), (.slice b2 b3 b4)] ∧ (RT.os 3 ri).val a3 a4 (.slice b6 b7 b8) s825.1 c9 ∧ (RT.os 43 rl).val a3 a4 (.slice d4 d5 d6) s864 g1 ∧ (RT.os 3 ri).val a3 a4 (.slice g8 g9 h0) r843 f4) (J := fun s864 a a4 => ∃ (σ : Nat → Value) (g2 : List Nat), a = fr 92 (ovl σ [(0, (pq vg0 0)), (3, (.slice c0 c1 c2)), (5, (pq a8 0)), (6, (.slice b6 b7 b8)), (7, (.slice d4 d5 d6)), (8, (iv k827)), (16, (.slice va0x1 vn0x1 vc0x1)), (17, (iv (b0.2.1.length : Int))), (18, (iv (c5 : Int))), (35, (iv (y620.length : Int))), (36, (iv k827))]) ∧ Chg [] w a4 ∧ Own (Nw w []) a3 a4 (f4 ++ (g2 ++ (c9 ++ (([a8]) ++ (b1 ++ []))))) ∧ (RT.rs (RT.pr ri rl)).val a3 a4 (.slice va0x1 vn0x1 vc0x1) b0.2.1 ([]) ∧ (RT.rs rl).val a3 a4 (.slice va0x3 vn0x3 vc0x3) b0.2.2.2.1 ([]) ∧ (RT.mr (Value.int .i64)).val a3 a4 (.map (some vn0x4)) b0.2.2.2.2 ([]) ∧ RBox a3 a4 vg0 81 [(iv b0.1), (.slice va0x1 vn0x1 vc0x1), (iv b0.2.2.1), (.slice va0x3 vn0x3 vc0x3), (.map (some vn0x4))] ∧ (RT.os 43 (RT.os 3 ri)).val a3 a4 (.slice c0 c1 c2) s593 b1 ∧ rl.val a3 a4 (.slice b2 b3 b4) x596.2 ([]) ∧ BoxV a4 a8 89 [(iv x596.1), (.slice b2 b3 b4)] ∧ (RT.os 3 ri).val a3 a4 (.slice b6 b7 b8) s825.1 c9 ∧ (RT.os 43 rl).val a3 a4 (.slice d4 d5 d6) s864 g2 ∧ (RT.os 3 ri).val a3 a4 (.slice g8 g9 h0) r843 f4) (K := (yk M w)) ?_ ?_ 0 s825.2 o868 _ _ ?_ n7 ?_)
   ·rintro k866 s864 a a4 ⟨σ, g1, rfl, hC, hO, hl0x1, hl0x3, hl0x4, hb0, a0, a1, a2, a6, g3, a9⟩ hlt
    refine c_sr (za _ (zx rfl rfl) (zb (zd (zh (cb (decide_eq_false hlt)) (wp_exit ?_)))))
    have hO := hO.fr4.fr4.fr4.fr4.fr4
    exact ⟨rfl, _, g1, fr_m 92 rfl, hC, hO, hl0x1, hl0x3, hl0x4, hb0, a0, a1, a2, a6, g3, a9⟩
   ·rintro k866 s864 o868 a a4 ⟨σ, g1, rfl, hC, hO, hl0x1, hl0x3, hl0x4, hb0, a0, a1, a2, a6, g3, a9⟩ hlt hw hs
    refine c_sr (za _ (zx rfl rfl) (zb (zd (zg (cb (decide_eq_true hlt)) (wp_skip (zd (wp_block (c_sr (mi rfl ?_)))))))))
    obtain ⟨x872, n8, hs⟩ := bind_some hs
    obtain ⟨n9, s3, s4, s5, o0, o1, s6⟩ := zR Sl43 Sz3 a9 n8
    refine za _ (o0 _ _ _ _ _ _ _ _ _ rfl rfl) (za (iv x872) (zo rfl ((zz Ag3 Sz3 o1) _ (Chg.refl _ _))) (ai rfl (ai rfl (zb (ze (ms rfl (mi rfl (mp rfl (za _ (Zw rfl) (za (pq vg0 3) (zk rfl Yt) (za _ (ld rfl Ag25 Sz25 hb0.1 rfl) (mi rfl ?_))))))))))))
    obtain ⟨x874, o2, hs⟩ := bind_some hs
    obtain ⟨o3, o4, o5, o6⟩ := zN Sl25 Sz43 hl0x3 o2
    refine za _ (o5 _ _ _ _ _ _ _ _ _ rfl rfl) ?_
    obtain ⟨s7, o7, h1⟩ := Zj Ag43 Sz43 (fun _ => rfl) o6
    obtain ⟨j5, j6, j7, rfl⟩ := yd h1
    refine za (.slice j5 j6 j7) (zo rfl (o7 _ (Chg.refl _ _))) ?_
    obtain ⟨x878, o8, hs⟩ := bind_some hs
    obtain ⟨j8, s8, j9, o9, p0, p1, s9⟩ := zR Sl25 Sz43 g3 o8
    have t0 := uV Rd.rs p1
    refine za _ (p0 _ _ _ _ _ _ _ _ _ rfl rfl) ?_
    have hO := hO.fr1
    obtain ⟨p2, p3, p4, d1, p5, h8⟩ := yn (P := Try.prog) (c' := [(.slice j5 j6 j7)]) j9 g3 o9 (fun g hg => hO.inM g (zA g3 g (by simpa using hg))) (yq h1) List.nodup_nil (fun _ h => nomatch h) (fun _ h => .inl h)
    have d7 : ∀ q ∈ [j8], q ∈ g1 := fun q hq => zA g3 q (by rw [j9]; exact hq)
    refine Zk (w' := p2) (zV rfl rfl (p4 _ _ rfl Sz43)) ?_
    have hl0x1 := hl0x1.mt d1 hO d7
    have hl0x3 := hl0x3.mt d1 hO d7
    have hl0x4 := hl0x4.mt d1 hO d7
    have hb0 := hb0.mut d1 (fun q hq => hO.inM q (d7 q hq))
    have a0 := a0.ma d1 hO d7 (fun _ e => (zl (zl (zl (zm (e))))))
    have a1 := a1.mt d1 hO d7
    have a2 := a2.ap d1 hO d7 (zl (zl (zm (List.mem_singleton.2 rfl))))
    have a6 := a6.ma d1 hO d7 (fun _ e => (zl (zm (e))))
    have a9 := a9.ma d1 hO d7 (fun _ e => (zm (e)))
    have h1 := h1.mt d1 hO d7
    have hC := hC.st d1 hO d7
    have hO := hO.grow d1 (fun q hq => .inl ((p5 q hq).resolve_right (fun h => nomatch h))) (zw h8) h8.fpl
    refine zb (ze (za _ (yad rfl rfl) (mi rfl (zb ?_))))
    cases hs
    have hO := hO.fr4.fr4.fr4.fr3.fr4
    exact ⟨_, p3, zD 92 ⟨rfl, rfl, rfl, rfl, rfl, rfl, rfl, rfl, rfl, rfl, rfl, rfl, rfl, congrArg (Value.int .i64) hw, trivial⟩, hC, hO, hl0x1, hl0x3, hl0x4, hb0, a0, a1, a2, a6, h8, a9⟩
   ·skip
    have hO := hO.fr4.fr4.fr4.fr4.fr4
    exact ⟨_, f2, fr_m 92 rfl, hC, hO, hl0x1, hl0x3, hl0x4, hb0, a0, a1, a2, a6, f3, a9⟩
   cases o868 with
   | nx _ => exact True.intro
   | rt r_ =>
    have hs := zp hs
    intro g4 h4 hK
    cases hs
    exact hK
   | br s864 =>
    have hs := zq hs
    rintro g4 a4 ⟨σ, g2, rfl, hC, hO, hl0x1, hl0x3, hl0x4, hb0, a0, a1, a2, a6, e2, a9⟩
    refine Ze [20] Mx rfl ?_
    have c7 := Chg.drew a4
    generalize World.drew a4 = p6 at c7 ⊢
    obtain ⟨hl0x1, hl0x3, hl0x4, hb0, a0, a1, a2, a6⟩ := xt8 c7 hl0x1 hl0x3 hl0x4 hb0 a0 a1 a2 a6
    obtain ⟨e2, a9, hC, hO⟩ := xt4 c7 e2 a9 hC hO
    have hS := Chg.refl [] p6
    refine xms 0 rfl rfl hS (xmi 1 rfl rfl hS (xmp 2 rfl rfl hS (xq 3 _ rfl (Zw rfl) hS (xq 4 (pq vg0 4) rfl (zk rfl VH) hS (xl 5 rfl (ldx rfl Ag79 Sz79 hb0.1 rfl) hS (xmp 6 rfl rfl hS (xq 7 _ rfl (Zw rfl) hS (xq 8 (pq vg0 0) rfl (zk rfl vV) hS (x_l 9 (.agg #[(iv b0.1), (.slice va0x1 vn0x1 vc0x1)]) rfl (by kernel_rfl)  (fun w' hw' => zo rfl ((Zr Ag35 Sz35 hb0.1 [] [(iv b0.1), (.slice va0x1 vn0x1 vc0x1)] [(iv b0.2.2.1), (.slice va0x3 vn0x3 vc0x3), (.map (some vn0x4))] rfl rfl (fun h => nomatch h)) w' hw')) hS (xl 10 rfl (ldxw rfl Ag89 a2 Sz89) hS (xmp 11 rfl rfl hS (xq 12 _ rfl (Zw rfl) hS (xq 13 (pq vg0 2) rfl (zk rfl Fa81x1) hS (xl 14 rfl (ldx rfl Ag3 Sz3 hb0.1 rfl) hS (xms 15 rfl rfl hS (zP (i := 16) (by kernel_rfl) ?_))))))))))))))))
    have hO := hO.fr1
    obtain ⟨r883, p7, hs⟩ := bind_some hs
    refine zZ (b := false) rfl  Bd112 rfl (Xa (M := (Less a3 g2)) (b0.1, b0.2.1) (x596.1, x596.2) b0.2.2.1 s864 (hl0x1.sub Less.sub) (a1.sub Less.sub) (((Frz.os (Frz.rs Frz.int))).val e2 Less.sub Less.not) hO.less.fut p7) rfl (by rintro _ _ _ ⟨p8, p9, q0, h9, rfl, b9, e9, k0⟩; exact hS.ext b9) ?_
    rintro _ t1 ⟨p8, p9, q0, h9, rfl, b9, e9, k0⟩
    obtain ⟨hl0x1, hl0x3, hl0x4, hb0, a0, a1, a2, a6⟩ := xt8 b9 hl0x1 hl0x3 hl0x4 hb0 a0 a1 a2 a6
    obtain ⟨e2, a9, hC⟩ := xt3 b9 e2 a9 hC
    have hO := Own.join0 hO b9 k0
    have hO := hO.perm (R := h9 ++ (g2 ++ (f4 ++ (c9 ++ (([a8]) ++ (b1 ++ ([]))))))) (by simp)
    have e9 := e9.free (M' := a3) (Free.os Free.int)
    have hS := hS.ext b9
    refine zP (i := 17) (by kernel_rfl) ?_
    obtain ⟨r886, q1, hs⟩ := bind_some hs
    refine zZ (b := false) rfl  Bd59 rfl (xg (M := (Less a3 h9)) r883 (((Frz.os Frz.int)).val e9 Less.sub Less.not) hO.less.fut q1) rfl (by rintro _ _ _ ⟨rfl, b5⟩; exact hS.ext b5) ?_
    rintro _ t2 ⟨rfl, b5⟩
    obtain ⟨hl0x1, hl0x3, hl0x4, hb0, a0, a1, a2, a6⟩ := xt8 b5 hl0x1 hl0x3 hl0x4 hb0 a0 a1 a2 a6
    obtain ⟨e2, a9, e9, hC, hO, hS⟩ := xt6 b5 e2 a9 e9 hC hO hS
    refine zP (i := 18) (by kernel_rfl) (zS (b := false) (iv ((mget b0.2.2.2.2 r886).getD 0)) rfl  (y_look (enc := (Value.int .i64)) Try.underlying79 Try.underlying9 Zv3 (mr_at hl0x4) rfl rfl) rfl (fun _ => hS) ?_)
    obtain ⟨x887, q2, hs⟩ := bind_some hs
    obtain ⟨k1, t3, k2, q3, q4, t4, t5⟩ := zR Sl43 Sz3 a6 q2
    refine xq 19 _ rfl (q4 _ _ _ _ _ _ _ _ _ rfl rfl) hS (zP (i := 20) (by kernel_rfl) ?_)
    have hO := hO.fr3
    obtain ⟨q5, q6, q7, d2, q8, i0⟩ := yn (P := Try.prog) (c' := [(iv ((mget b0.2.2.2.2 r886).getD 0))]) k2 a6 q3 (fun g hg => hO.inM g (zA a6 g (by simpa using hg))) ⟨rfl, rfl⟩ List.nodup_nil (fun _ h => nomatch h) (fun _ h => .inl h)
    have d8 : ∀ q ∈ [k1], q ∈ c9 := fun q hq => zA a6 q (by rw [k2]; exact hq)
    refine Ug (w' := q5) (b := true) rfl (zV rfl rfl (q7 _ _ rfl Sz3)) rfl (fun h => nomatch h) ?_
    have hl0x1 := hl0x1.mt d2 hO d8
    have hl0x3 := hl0x3.mt d2 hO d8
    have hl0x4 := hl0x4.mt d2 hO d8
    have hb0 := hb0.mut d2 (fun q hq => hO.inM q (d8 q hq))
    have a0 := a0.ma d2 hO d8 (fun _ e => (zl (zl (zl (zl (zm (e)))))))
    have a1 := a1.mt d2 hO d8
    have a2 := a2.ap d2 hO d8 (zl (zl (zl (zm (List.mem_singleton.2 rfl)))))
    have e2 := e2.ma d2 hO d8 (fun _ e => (zl (zm (e))))
    have a9 := a9.ma d2 hO d8 (fun _ e => (zl (zl (zm (e)))))
    have e9 := e9.ma d2 hO d8 (fun _ e => (zm (e)))
    have hC := hC.st d2 hO d8
    have hO := hO.grow d2 (fun q hq => .inl ((q8 q hq).resolve_right (fun h => nomatch h))) (zw i0) i0.fpl
    refine Zc (by kernel_rfl) ?_
    clear hS
    refine ze (za _ (yad rfl rfl) (mi rfl (zb ?_)))
    cases hs
    have hO := hO.fr1.drop.fr2.drop.fr3.fr3.fr2.fr3
    exact ⟨_, a3, q6, g2, zD 92 ⟨rfl, rfl, rfl, rfl, rfl, rfl, rfl, rfl, rfl, congrArg (Value.int .i64) hw, trivial⟩, hC, hO, hK, hl0x1, hl0x3, hl0x4, hb0, a0, a1, a2, i0, e2⟩
  ·skip
   have hO := hO.fr3.fr3.fr3.fr3
   exact ⟨_, e8, m4, n1, fr_m 92 rfl, hC, hO, hK, hl0x1, hl0x3, hl0x4, hb0, a0, a1, a2, e7, n3⟩
  cases o829 with
  | nx _ => exact True.intro
  | rt r_ =>
   have hs := zp hs
   intro g4 h4 hK
   cases hs
   exact hK
  | br s825 =>
   have hs := zq hs
   rintro g4 a5 ⟨σ, c3, g0, g7, rfl, hC, hO, hK, hl0x1, hl0x3, hl0x4, hb0, a0, a1, a2, i1, h2⟩
   refine ze (ms rfl (ms rfl ?_))
   obtain ⟨k3, h3, q9, k4, d9, k5⟩ := zi a5 [(.slice b6 b7 b8)] 43
   refine za (w' := k3) (.slice (some ⟨h3, 0, none⟩) 1 1) (zG rfl (by rw [q9, k4]; kernel_rfl)) ?_
   obtain ⟨hl0x1, hl0x3, hl0x4, hb0, a0, a1, a2, i1⟩ := xt8 d9 hl0x1 hl0x3 hl0x4 hb0 a0 a1 a2 i1
   obtain ⟨h2, hC⟩ := xt2 d9 h2 hC
   have hO := (hO.fr1.new1 d9 k4 k5.lt).perm (R := (h3 :: ((g0) ++ ([]))) ++ (g7 ++ (([a8]) ++ (b1 ++ ([]))))) (by simp)
   have r0 := hO.nd
   have i2 := zT (r := (RT.os 3 ri)) (M := c3) (css := [[(.slice b6 b7 b8)]]) (fps := [(g0 : List Nat)]) (xs := ([s825.1] : List (List Int))) k5 ⟨(Zs i1), trivial⟩ (Nat.le_of_ble_eq_true rfl) r0
   have i2 : (RT.os 43 (RT.os 3 ri)).val c3 k3 (.slice (some ⟨h3, 0, none⟩) 1 1) [s825.1] (h3 :: ((g0) ++ ([]))) := i2
   obtain ⟨y893, r1, hs⟩ := bind_some hs
   have hO := hO.fr3
   obtain ⟨i3, i4, i5, r2, r3, r4, e4, r5, i6⟩ := Yc Rw25 r1 a0 i2 hO.inM (fun g hg hq => hO.apart g hq (zm hg))
   have f0 := zA a0
   refine za (w' := r2) (.slice i3 i4 i5) (zU rfl rfl (r4 _)) ?_
   have hO := hO.fr1.fr1
   have hl0x1 := hl0x1.mt e4 hO f0
   have hl0x3 := hl0x3.mt e4 hO f0
   have hl0x4 := hl0x4.mt e4 hO f0
   have hb0 := hb0.mut e4 (fun q hq => hO.inM q (f0 q hq))
   have a1 := a1.mt e4 hO f0
   have a2 := a2.ap e4 hO f0 (zl (zl (zm (List.mem_singleton.2 rfl))))
   have h2 := h2.ma e4 hO f0 (fun _ e => (zl (zm (e))))
   have hC := hC.st e4 hO f0
   have hO := hO.eat e4 r5 (zw i6) i6.fpl
   refine ax rfl (zb (ze (za _ (yad rfl rfl) (mi rfl (zb ?_)))))
   cases hs
   have hO := hO.fr1.drop.fr1.drop
   exact ⟨_, rfl, Zq hd, _, c3, i3, i4, i5, r3, zD 92 ⟨rfl, rfl, rfl, rfl, congrArg (Value.int .i64) (Yh hlt (Int.natCast_nonneg _) (XO hl0x1)), trivial⟩, hC, hO, hK, hl0x1, hl0x3, hl0x4, hb0, i6⟩
 ·skip
  exact ⟨0, rfl, rfl, _, M, (some ⟨f5, 0, none⟩), 0, 0, ([f5]), fr_m 92 rfl, hC, hO, Keeps.refl, hl0x1, hl0x3, hl0x4, hb0, h5⟩
 cases o597 with
 | nx _ => exact True.intro
 | rt r_ =>
  have hs := zp hs
  intro g4 h4 hK
  cases hs
  exact hK
 | br s593 =>
  have hs := zq hs
  rintro g4 a7 ⟨σ, e5, f7, f8, f9, g5, rfl, hC, hO, hK, hl0x1, hl0x3, hl0x4, hb0, r6⟩
  refine c_sr (ms rfl (ax rfl (zb (wp_ret ?_))))
  cases hs
  exact ⟨_, f7, f8, f9, g5, fr_m 92 rfl, hC, (r6.free (Free.os (Free.os Free.int))), hO.top⟩

def wA (M : Nat → Prop) (w0 : World) (r : Int) (a : Act) (w : World) : Prop :=
  ∃ (σ : Nat → Value) , a = fr 20 (ovl σ [(4, (.int .i64 r))]) ∧ Chg [] w0 w
def yx (s_ : List Int) (t : List Int) : Option (Int) :=
  (bif (decide ((s_.length : Int) < (t.length : Int))) then some (-1) else (bif (decide ((t.length : Int) < (s_.length : Int))) then some 1 else (zX s_ t).bind fun r6 =>
  some r6))
set_option maxHeartbeats 4000000 in
theorem wz {M : Nat → Prop} {w : World} {pa0 : Option Addr} {pn0 pc0 : Nat} {pa1 : Option Addr} {pn1 pc1 : Nat} (s_ : List Int) (t : List Int) (h0 : rl.val M w (.slice pa0 pn0 pc0) s_ ([])) (h1 : rl.val M w (.slice pa1 pn1 pc1) t ([])) (hM : ∀ g, w.heap.size ≤ g → M g) {r : Int} (hs : yx s_ t = some r) :
    Gives Try.prog 113 [(.slice pa0 pn0 pc0), (.slice pa1 pn1 pc1)] w (fun v w' => v = (iv r) ∧ Chg [] w w') := by
 refine zr Try.func113 rfl Try.ntmps113 (Nat.le_of_ble_eq_true rfl) ?_
 have hO := Own.start (N := Nw w []) hM Nw.fut
 have hC := Chg.refl [] w
 unfold yx at hs
 refine wp_k (K := (wA M w r)) (by rintro _ _ ⟨σ, rfl, hrest⟩; exact Zh Try.results113 (zB rfl) ⟨rfl, hrest⟩) (c_sr (ai rfl (zb (zd (wp_block (c_sr (ms rfl (za _ (zn Sl43 (zu h0) rfl) (ms rfl (za _ (zn Sl43 (zu h1) rfl) (za _ (zx rfl rfl) (ab rfl (zb ?_)))))))))))))
 rcases zf hs with ⟨a1, hs⟩ | ⟨a1, hs⟩
 ·refine zg (cb a1) (c_sr (ai rfl (zb (wp_ret ?_))))
  cases hs
  exact ⟨_, fr_m 20 rfl, hC⟩
 refine zh (cb a1) (c_sr (ms rfl (za _ (zn Sl43 (zu h0) rfl) (ms rfl (za _ (zn Sl43 (zu h1) rfl) (za _ (YJ rfl rfl) (ab rfl (zb ?_))))))))
 rcases zf hs with ⟨a2, hs⟩ | ⟨a2, hs⟩
 ·refine zg (cb a2) (c_sr (ai rfl (zb (wp_ret ?_))))
  cases hs
  exact ⟨_, fr_m 20 rfl, hC⟩
 refine zh (cb a2) (wp_skip (c_sr (ms rfl (ms rfl ?_))))
 obtain ⟨r6, a3, hs⟩ := bind_some hs
 refine zy Bd78 rfl (xJ (M := M) s_ t h0 h1 hO.fut a3) ?_
 rintro _ a5 ⟨rfl, a0⟩
 obtain ⟨h0, h1, hC, hO⟩ := xt4 a0 h0 h1 hC hO
 refine ai rfl (zb (wp_ret ?_))
 cases hs
 exact ⟨_, fr_m 20 rfl, hC⟩

theorem Bd113 : zC Try.prog 113 := zI Try.func113 (by kernel_rfl) rfl

def YO (M : Nat → Prop) (w0 : World) (qa0 : Option Addr) (qn0 qc0 : Nat) (qf0 : List Nat) (r : Bool × (List (List Int))) (a : Act) (w : World) : Prop :=
  ∃ (σ : Nat → Value) (rfi0 : List Nat), a = fr 99 (ovl σ [(12, (.bool r.1))]) ∧ Chg (qf0 ++ ([])) w0 w ∧ (RT.os 43 (RT.on 3 (RT.int .i64))).val M w (.slice qa0 qn0 qc0) r.2 rfi0 ∧ Own (Nw w0 (qf0 ++ ([]))) (fun _ => True) w (rfi0 ++ ([]))
def Za (best : List (List Int)) (op : Int) (arity : Int) (i : Int) (v_ : Int) (b0 : Int × (List (Int × (List Int))) × Int × (List (List Int)) × (List (ByteArray × Int))) : Option (Bool × (List (List Int))) :=
  (yi i arity (b0.2.2.2.1.length : Int)).bind fun r7 =>
  (forR (S := Int) (R := Bool × (List (List Int))) (fun _ x22 s19 =>
  (idx best x22).bind fun x26 =>
  (bif (List.isEmpty x26) then some (.rt (false, best)) else (idx best x22).bind fun x31 =>
  some (.nx (w64 (s19 + (x31.length : Int)))))) 0 r7 1).bind fun o23 => after o23 (fun r_ => some r_) (fun s19 =>
  ((bif (decide (60 < s19)) then some true else (idx best v_).bind fun x39 =>
  (bif (!(List.isEmpty x39)) then (idx best v_).bind fun x44 =>
  some (decide ((x44.length : Int) < s19)) else some false))).bind fun s35 =>
  (bif s35 then some (false, best) else (forR (S := (List Int)) (R := Bool × (List (List Int))) (fun _ x64 s61 =>
  (idx best x64).bind fun x72 =>
  (app s61 x72).bind fun y77 =>
  some (.nx y77)) 0 r7 ([w64 ((-1) - op)])).bind fun o65 => after o65 (fun r_ => some r_) (fun s61 =>
  ((idx best v_).bind fun x82 =>
  (bif (!(List.isEmpty x82)) then (idx best v_).bind fun x87 =>
  (yx x87 s61).bind fun r92 =>
  some (decide (r92 ≤ 0)) else some false)).bind fun s79 =>
  (bif s79 then some (false, best) else (idx best v_).bind fun x94 =>
  (nne s61).bind fun u97 =>
  some (true, List.set best (Int.toNat v_) s61)))))
set_option maxHeartbeats 4000000 in
theorem Wj {M : Nat → Prop} {w : World} {vg0 : Nat} {pa0 : Option Addr} {pn0 pc0 : Nat} {pf0 : List Nat} {va0x1 : Option Addr} {vn0x1 vc0x1 : Nat} {va0x3 : Option Addr} {vn0x3 vc0x3 : Nat} {vn0x4 : Nat} (best : List (List Int)) (op : Int) (arity : Int) (i : Int) (v_ : Int) (b0 : Int × (List (Int × (List Int))) × Int × (List (List Int)) × (List (ByteArray × Int))) (h0 : (RT.os 43 (RT.on 3 ri)).val M w (.slice pa0 pn0 pc0) best pf0) (hb0 : RBox M w vg0 81 [(iv b0.1), (.slice va0x1 vn0x1 vc0x1), (iv b0.2.2.1), (.slice va0x3 vn0x3 vc0x3), (.map (some vn0x4))]) (hl0x1 : (RT.rs (RT.pr ri rl)).val M w (.slice va0x1 vn0x1 vc0x1) b0.2.1 ([])) (hl0x3 : (RT.rs rl).val M w (.slice va0x3 vn0x3 vc0x3) b0.2.2.2.1 ([])) (hl0x4 : (RT.mr (Value.int .i64)).val M w (.map (some vn0x4)) b0.2.2.2.2 ([])) (hI : Own (Nw w (pf0 ++ ([]))) M w (pf0 ++ ([]))) (hM : ∀ g, w.heap.size ≤ g → M g) {r : Bool × (List (List Int))} (hs : Za best op arity i v_ b0 = some r) :
    Gives Try.prog 103 [(pq vg0 0), (.slice pa0 pn0 pc0), (iv op), (iv arity), (iv i), (iv v_)] w (fun v w' => ∃ (rfi0 : List Nat), v = (.bool r.1) ∧ Chg (pf0 ++ ([])) w w' ∧ (RT.os 43 (RT.on 3 ri)).val M w' (.slice pa0 pn0 pc0) r.2 rfi0 ∧ Own (Nw w (pf0 ++ ([]))) (fun _ => True) w' (rfi0 ++ ([]))) := by
 refine zr Try.func103 rfl Try.ntmps103 (Nat.le_of_ble_eq_true rfl) ?_
 have hO := hI
 have hC := Chg.refl (pf0 ++ ([])) w
 unfold Za at hs
 refine wp_k (K := (YO M w pa0 pn0 pc0 pf0 r)) (by rintro _ _ ⟨σ, rfi0, rfl, hrest⟩; exact Zh Try.results103 (zB rfl) ⟨rfi0, rfl, hrest⟩) (c_sr (ab rfl (zb (c_sr (mi rfl (mi rfl (mp rfl (za _ (Zw rfl) (za (pq vg0 3) (zk rfl Yt) (za _ (ld rfl Ag25 Sz25 hb0.1 rfl) (za _ (zn Sl25 (zu hl0x3) rfl) ?_)))))))))))
 obtain ⟨r7, g2, hs⟩ := bind_some hs
 refine zy Bd89 rfl (Xl (M := M) i arity (b0.2.2.2.1.length : Int)  hO.fut g2) ?_
 rintro _ q4 ⟨a7, a8, a9, b1, rfl, b4, a0, g3⟩
 obtain ⟨h0, hl0x1, hl0x3, hl0x4, hb0, hC⟩ := xt6 b4 h0 hl0x1 hl0x3 hl0x4 hb0 hC
 have hO := Own.join0 hO b4 g3
 have hO := hO.perm (R := b1 ++ (pf0 ++ ([]))) (by simp)
 refine ax rfl (zb (c_sr (ai rfl (zb (zd (c_sr (ms rfl (za _ (zn Sl43 (ZV a0) rfl) (mi rfl (zb ?_))))))))))
 obtain ⟨o23, g4, hs⟩ := bind_some hs
 refine wp_block (YM (id := 0) (I := fun i_ xs_ s19 a a5 => ∃ b2 : Nat, i_ = (b2 : Int) ∧ List.drop b2 r7 = xs_ ∧ (∃ (σ : Nat → Value), a = fr 99 (ovl σ [(1, (.slice pa0 pn0 pc0)), (2, (iv op)), (5, (iv v_)), (13, (.slice a7 a8 a9)), (14, (iv s19)), (28, (.slice a7 a8 a9)), (29, (iv (r7.length : Int))), (30, (iv (b2 : Int)))]) ∧ Chg (pf0 ++ ([])) w a5 ∧ Own (Nw w (pf0 ++ ([]))) M a5 (b1 ++ (pf0 ++ [])) ∧ (RT.os 43 (RT.on 3 ri)).val M a5 (.slice pa0 pn0 pc0) best pf0 ∧ (RT.os 3 ri).val M a5 (.slice a7 a8 a9) r7 b1)) (J := fun s19 a a5 => ∃ (σ : Nat → Value), a = fr 99 (ovl σ [(1, (.slice pa0 pn0 pc0)), (2, (iv op)), (5, (iv v_)), (13, (.slice a7 a8 a9)), (14, (iv s19))]) ∧ Chg (pf0 ++ ([])) w a5 ∧ Own (Nw w (pf0 ++ ([]))) M a5 (b1 ++ (pf0 ++ [])) ∧ (RT.os 43 (RT.on 3 ri)).val M a5 (.slice pa0 pn0 pc0) best pf0 ∧ (RT.os 3 ri).val M a5 (.slice a7 a8 a9) r7 b1) (K := (YO M w pa0 pn0 pc0 pf0)) ?_ ?_ r7 0 1 o23 _ _ ?_ g4 ?_)
 ·rintro _ s19 a a5 ⟨b2, rfl, hd, σ, rfl, hC, hO, h0, a0⟩
  have hlt := yb hd
  refine c_sr (za _ (zx rfl rfl) (zb (zd (zh (cb (decide_eq_false hlt)) (wp_exit ?_)))))
  have hO := hO.fr1.fr1
  exact ⟨rfl, _, fr_m 99 rfl, hC, hO, h0, a0⟩
 ·rintro _ x22 xs_ s19 o23 a a5 ⟨b2, rfl, hd, σ, rfl, hC, hO, h0, a0⟩ hs
  have hlt := ZJ hd
  have g5 := Zz hd
  refine c_sr (za _ (zx rfl rfl) (zb (zd (zg (cb (decide_eq_true hlt)) (wp_skip (zd (wp_block (c_sr ?_))))))))
  obtain ⟨g6, q5, q6, q7, g7, g8, q8⟩ := zR Sl43 Sz3 a0 g5
  refine za _ (g7 _ _ _ _ _ _ _ _ _ rfl rfl) (za (iv x22) (zo rfl ((zz Ag3 Sz3 g8) _ (Chg.refl _ _))) (ai rfl (zb (zd (c_sr (ms rfl (mi rfl ?_)))))))
  obtain ⟨x26, g9, hs⟩ := bind_some hs
  obtain ⟨h1, q9, r0, r1, h2, h3, h4⟩ := zR Sl25 Sz43 h0 g9
  have h5 := Zv (Frz.onn Frz.int) h3 h4
  refine za _ (h2 _ _ _ _ _ _ _ _ _ rfl rfl) ?_
  obtain ⟨r2, h6, hrow28, f3⟩ := ZG Ag43 Sz43 rfl rfl h5
  obtain ⟨h7, h8, h9, rfl, f3, i0⟩ := Ws f3
  refine za (.slice h7 h8 h9) (zo rfl (h6 _ (Chg.refl _ _))) (za (.bool (List.isEmpty x26)) (y_nil Try.underlying43 rfl rfl i0) (zb ?_))
  rcases zf hs with ⟨d6, hs⟩ | ⟨d6, hs⟩
  ·refine zg (cb d6) (c_sr (ab rfl (zb (wp_ret ?_))))
   cases hs
   have hO := hO.drop
   exact ⟨_, pf0, fr_m 99 rfl, hC, h0, hO.top⟩
  refine zh (cb d6) (wp_skip (ze (mi rfl (ms rfl (mi rfl ?_)))))
  obtain ⟨x31, i1, hs⟩ := bind_some hs
  obtain ⟨i2, r3, r4, r5, i3, i4, i5⟩ := zR Sl25 Sz43 h0 i1
  have i6 := Zv (Frz.onn Frz.int) i4 i5
  refine za _ (i3 _ _ _ _ _ _ _ _ _ rfl rfl) ?_
  obtain ⟨r6, i7, hrow33, d7⟩ := ZG Ag43 Sz43 rfl rfl i6
  obtain ⟨i9, j0, j1, rfl, d7, r8⟩ := Ws d7
  refine za (.slice i9 j0 j1) (zo rfl (i7 _ (Chg.refl _ _))) (za _ (zn Sl43 (zu d7) rfl) (za _ (yad rfl rfl) (ai rfl (zb (ze (za _ (yad rfl rfl) (mi rfl (zb ?_))))))))
  cases hs
  have hO := hO.fr1.fr1
  exact ⟨_, rfl, Zq hd, _, zD 99 ⟨rfl, rfl, rfl, rfl, rfl, rfl, rfl, congrArg (Value.int .i64) (Yh hlt (Int.natCast_nonneg _) (zaC a0)), trivial⟩, hC, hO, h0, a0⟩
 ·skip
  have hO := hO.fr1.fr1
  exact ⟨0, rfl, rfl, _, fr_m 99 rfl, hC, hO, h0, a0⟩
 cases o23 with
 | nx _ => exact True.intro
 | rt r_ =>
  have hs := zp hs
  intro c4 f2 hK
  cases hs
  exact hK
 | br s19 =>
  have hs := zq hs
  rintro c4 a5 ⟨σ, rfl, hC, hO, h0, a0⟩
  refine zd (zd ?_)
  obtain ⟨s35, j2, hs⟩ := bind_some hs
  refine yO (I := fun a d8 => ∃ (σ : Nat → Value), a = fr 99 (ovl σ [(1, (.slice pa0 pn0 pc0)), (2, (iv op)), (5, (iv v_)), (13, (.slice a7 a8 a9)), (64, (.bool s35))]) ∧ Chg [] a5 d8) ?_ ?_
  ·replace hs := j2
   have hMid := Chg.refl [] a5
   refine ze (mi rfl (za _ (YJ rfl rfl) (mb rfl ?_)))
   rcases zf hs with ⟨a1, hs⟩ | ⟨a1, hs⟩
   ·skip
    refine pn 49 (cb a1) (pn 49 (cb a1) (pn 49 (cb a1) (pn 49 (cb a1) (pn 49 (cb a1) (pn 49 (cb a1) (XS (tg := 55) (by kernel_rfl) rfl (XS (tg := 55) (by kernel_rfl) rfl (XS (tg := 55) (by kernel_rfl) rfl (XS (tg := 55) (by kernel_rfl) rfl (XS (tg := 55) (by kernel_rfl) rfl (XS (tg := 55) (by kernel_rfl) rfl (XS (tg := 55) (by kernel_rfl) rfl (pn 49 (cb a1) (za _ (ptb (cb a1) rfl) (zb ?_)))))))))))))))
    cases hs
    exact ⟨_, fr_m 99 rfl, hMid⟩
   refine py 49 (.slice pa0 pn0 pc0) (cb a1) (zt rfl) (py 49 (iv v_) (cb a1) (zt rfl) ?_)
   obtain ⟨x39, j3, hs⟩ := bind_some hs
   obtain ⟨j4, r9, s0, s1, j5, j6, j7⟩ := zR Sl25 Sz43 h0 j3
   have j8 := Zv (Frz.onn Frz.int) j6 j7
   refine py 49 _ (cb a1) (j5 _ _ _ _ _ _ _ _ _ rfl rfl) ?_
   obtain ⟨s2, j9, hrow41, f4⟩ := ZG Ag43 Sz43 rfl rfl j8
   obtain ⟨k0, k1, k2, rfl, f4, k3⟩ := Ws f4
   refine py 49 (.slice k0 k1 k2) (cb a1) (zo rfl (j9 _ (Chg.refl _ _))) (py 49 (.bool (!(List.isEmpty x39))) (cb a1) (y_nnil Try.underlying43 rfl rfl k3) (py 49 (.bool (!(List.isEmpty x39))) (cb a1) (zt rfl) ?_))
   rcases zf hs with ⟨a2, hs⟩ | ⟨a2, hs⟩
   ·skip
    refine py 55 (.slice pa0 pn0 pc0) (cb a2) (zt rfl) (py 55 (iv v_) (cb a2) (zt rfl) ?_)
    obtain ⟨x44, k4, hs⟩ := bind_some hs
    obtain ⟨k5, s3, s4, s5, k6, k7, k8⟩ := zR Sl25 Sz43 h0 k4
    have k9 := Zv (Frz.onn Frz.int) k7 k8
    refine py 55 _ (cb a2) (k6 _ _ _ _ _ _ _ _ _ rfl rfl) ?_
    obtain ⟨s6, l0, hrow46, d9⟩ := ZG Ag43 Sz43 rfl rfl k9
    obtain ⟨l1, l2, l3, rfl, d9, s7⟩ := Ws d9
    refine py 55 (.slice l1 l2 l3) (cb a2) (zo rfl (l0 _ (Chg.refl _ _))) (py 55 _ (cb a2) (zn Sl43 (zu d9) rfl) (py 55 (iv s19) (cb a2) (zt rfl) (py 55 _ (cb a2) (zx rfl rfl) (py 49 _ (cb a1) (ptb (cb a2) rfl) (za _ (pfb (cb a1) rfl) (zb ?_))))))
    cases hs
    exact ⟨_, fr_m 99 rfl, hMid⟩
   refine pn 55 (cb a2) (pn 55 (cb a2) (pn 55 (cb a2) (pn 55 (cb a2) (pn 55 (cb a2) (pn 55 (cb a2) (pn 55 (cb a2) (py 49 _ (cb a1) (pfb (cb a2) rfl) (za _ (pfb (cb a1) rfl) (zb ?_)))))))))
   cases hs
   exact ⟨_, fr_m 99 rfl, hMid⟩
  rintro c4 d8 ⟨σ, rfl, d2⟩
  obtain ⟨h0, a0, hC, hO⟩ := xt4 d2 h0 a0 hC hO
  rcases zf hs with ⟨e0, hs⟩ | ⟨e0, hs⟩
  ·refine zg (cb e0) (c_sr (ab rfl (zb (wp_ret ?_))))
   cases hs
   have hO := hO.drop
   exact ⟨_, pf0, fr_m 99 rfl, hC, h0, hO.top⟩
  refine zh (cb e0) (wp_skip (c_sr (mi rfl (za _ (ysu rfl rfl) ?_))))
  obtain ⟨f5, c0, l4, f6, d3, f7⟩ := zi d8 [(iv (w64 ((-1) - op)))] 3
  refine za (w' := f5) (.slice (some ⟨c0, 0, none⟩) 1 1) (zG rfl (by rw [l4, f6]; kernel_rfl)) ?_
  obtain ⟨h0, a0, hC⟩ := xt3 d3 h0 a0 hC
  have hO := hO.new1 d3 f6 f7.lt
  have e1 := zT (r := ri) (M := M) (css := [[(iv (w64 ((-1) - op)))]]) (fps := [([] : List Nat)]) (xs := ([w64 ((-1) - op)] : List Int)) f7 ⟨⟨rfl, rfl⟩, trivial⟩ (Nat.le_of_ble_eq_true rfl) (List.nodup_cons.2 ⟨(fun h => nomatch h), List.nodup_nil⟩)
  have e1 : (RT.os 3 ri).val M f5 (.slice (some ⟨c0, 0, none⟩) 1 1) [w64 ((-1) - op)] [c0] := e1
  refine ax rfl (zb (zd (c_sr (ms rfl (za _ (zn Sl43 (ZV a0) rfl) (mi rfl (zb ?_)))))))
  obtain ⟨o65, l5, hs⟩ := bind_some hs
  refine wp_block (YM (id := 2) (I := fun i_ xs_ s61 a a4 => ∃ b3 : Nat, i_ = (b3 : Int) ∧ List.drop b3 r7 = xs_ ∧ (∃ (σ : Nat → Value) (c1 : Option Addr) (c2 : Nat) (c3 : Nat) (c5 : List Nat), a = fr 99 (ovl σ [(1, (.slice pa0 pn0 pc0)), (5, (iv v_)), (17, (.slice c1 c2 c3)), (68, (.slice a7 a8 a9)), (69, (iv (r7.length : Int))), (70, (iv (b3 : Int)))]) ∧ Chg (pf0 ++ ([])) w a4 ∧ Own (Nw w (pf0 ++ ([]))) M a4 (c5 ++ (b1 ++ (pf0 ++ []))) ∧ (RT.os 43 (RT.on 3 ri)).val M a4 (.slice pa0 pn0 pc0) best pf0 ∧ (RT.os 3 ri).val M a4 (.slice a7 a8 a9) r7 b1 ∧ (RT.os 3 ri).val M a4 (.slice c1 c2 c3) s61 c5)) (J := fun s61 a a4 => ∃ (σ : Nat → Value) (b5 : Option Addr) (b6 : Nat) (b7 : Nat) (b8 : List Nat), a = fr 99 (ovl σ [(1, (.slice pa0 pn0 pc0)), (5, (iv v_)), (17, (.slice b5 b6 b7))]) ∧ Chg (pf0 ++ ([])) w a4 ∧ Own (Nw w (pf0 ++ ([]))) M a4 (b8 ++ (b1 ++ (pf0 ++ []))) ∧ (RT.os 43 (RT.on 3 ri)).val M a4 (.slice pa0 pn0 pc0) best pf0 ∧ (RT.os 3 ri).val M a4 (.slice a7 a8 a9) r7 b1 ∧ (RT.os 3 ri).val M a4 (.slice b5 b6 b7) s61 b8) (K := (YO M w pa0 pn0 pc0 pf0)) ?_ ?_ r7 0 ([w64 ((-1) - op)]) o65 _ _ ?_ l5 ?_)
  ·rintro _ s61 a a4 ⟨b3, rfl, hd, σ, c1, c2, c3, c5, rfl, hC, hO, h0, a0, d4⟩
   have hlt := yb hd
   refine c_sr (za _ (zx rfl rfl) (zb (zd (zh (cb (decide_eq_false hlt)) (wp_exit ?_)))))
   have hO := hO.fr2.fr2.fr2
   exact ⟨rfl, _, c1, c2, c3, c5, fr_m 99 rfl, hC, hO, h0, a0, d4⟩
  ·rintro _ x64 xs_ s61 o65 a a4 ⟨b3, rfl, hd, σ, c1, c2, c3, c5, rfl, hC, hO, h0, a0, d4⟩ hs
   have hlt := ZJ hd
   have l6 := Zz hd
   refine c_sr (za _ (zx rfl rfl) (zb (zd (zg (cb (decide_eq_true hlt)) (wp_skip (zd (wp_block (c_sr ?_))))))))
   obtain ⟨l7, s8, s9, t0, l8, l9, t1⟩ := zR Sl43 Sz3 a0 l6
   refine za _ (l8 _ _ _ _ _ _ _ _ _ rfl rfl) (za (iv x64) (zo rfl ((zz Ag3 Sz3 l9) _ (Chg.refl _ _))) (ai rfl (zb (ze (ms rfl (ms rfl (mi rfl ?_)))))))
   obtain ⟨x72, m0, hs⟩ := bind_some hs
   obtain ⟨m1, t2, t3, t4, m2, m3, m4⟩ := zR Sl25 Sz43 h0 m0
   have m5 := Zv (Frz.onn Frz.int) m3 m4
   refine za _ (m2 _ _ _ _ _ _ _ _ _ rfl rfl) ?_
   obtain ⟨t5, m6, hrow74, c6⟩ := ZG Ag43 Sz43 rfl rfl m5
   obtain ⟨m7, m8, m9, rfl, c6, t6⟩ := Ws c6
   refine za (.slice m7 m8 m9) (zo rfl (m6 _ (Chg.refl _ _))) ?_
   obtain ⟨y77, n0, hs⟩ := bind_some hs
   have hO := hO.fr2.fr1
   obtain ⟨e2, e3, e4, n1, n2, n3, c7, n4, c8⟩ := Xn Rw43 n0 (d4.sub (M' := (Less M pf0)) Less.sub) c6 (fun g hg => ⟨hO.inM g hg, fun hq => hO.apart g hg (zm hq)⟩)
   have c8 := c8.free (M' := M) (Free.os Free.int)
   have c9 := zA d4
   refine za (w' := n1) (.slice e2 e3 e4) (zU rfl rfl (n3 _)) ?_
   have h0 := h0.ma c7 hO c9 (fun _ e => (zm (e)))
   have a0 := a0.ma c7 hO c9 (fun _ e => (zl (zm (e))))
   have c6 := c6.mut c7 (fun g hg => ⟨hO.inM g (c9 g hg), fun e => hO.apart g (c9 g hg) (zm (e))⟩) (fun _ _ h => nomatch h)
   have hC := hC.st c7 hO c9
   have hO := hO.grow c7 n4 (zw c8) c8.fpl
   refine ax rfl (zb (ze (za _ (yad rfl rfl) (mi rfl (zb ?_)))))
   cases hs
   have hO := hO.fr1.fr2.fr2
   exact ⟨_, rfl, Zq hd, _, e2, e3, e4, n2, zD 99 ⟨rfl, rfl, rfl, rfl, rfl, congrArg (Value.int .i64) (Yh hlt (Int.natCast_nonneg _) (zaC a0)), trivial⟩, hC, hO, h0, a0, c8⟩
  ·skip
   have hO := hO.fr2.fr2.fr2
   exact ⟨0, rfl, rfl, _, (some ⟨c0, 0, none⟩), 1, 1, ([c0]), fr_m 99 rfl, hC, hO, h0, a0, e1⟩
  cases o65 with
  | nx _ => exact True.intro
  | rt r_ =>
   have hs := zp hs
   intro c4 f2 hK
   cases hs
   exact hK
  | br s61 =>
   have hs := zq hs
   rintro c4 a4 ⟨σ, b5, b6, b7, b8, rfl, hC, hO, h0, a0, b9⟩
   refine zd (zd ?_)
   obtain ⟨s79, n5, hs⟩ := bind_some hs
   refine yO (I := fun a f8 => ∃ (σ : Nat → Value), a = fr 99 (ovl σ [(1, (.slice pa0 pn0 pc0)), (5, (iv v_)), (17, (.slice b5 b6 b7)), (94, (.bool s79))]) ∧ Chg [] a4 f8) ?_ ?_
   ·replace hs := n5
    have hMid := Chg.refl [] a4
    refine ze (ms rfl (mi rfl ?_))
    obtain ⟨x82, n6, hs⟩ := bind_some hs
    obtain ⟨n7, t7, t8, t9, n8, e5, n9⟩ := zR Sl25 Sz43 h0 n6
    have e6 := Zv (Frz.onn Frz.int) e5 n9
    refine za _ (n8 _ _ _ _ _ _ _ _ _ rfl rfl) ?_
    obtain ⟨u0, o0, hrow84, d5⟩ := ZG Ag43 Sz43 rfl rfl e6
    obtain ⟨o1, o2, o3, rfl, d5, o4⟩ := Ws d5
    refine za (.slice o1 o2 o3) (zo rfl (o0 _ (Chg.refl _ _))) (za (.bool (!(List.isEmpty x82))) (y_nnil Try.underlying43 rfl rfl o4) (mb rfl ?_))
    rcases zf hs with ⟨a3, hs⟩ | ⟨a3, hs⟩
    ·skip
     refine py 86 (.slice pa0 pn0 pc0) (cb a3) (zt rfl) (py 86 (iv v_) (cb a3) (zt rfl) ?_)
     obtain ⟨x87, o5, hs⟩ := bind_some hs
     obtain ⟨o6, u1, u2, u3, o7, e7, o8⟩ := zR Sl25 Sz43 h0 o5
     have e8 := Zv (Frz.onn Frz.int) e7 o8
     refine py 86 _ (cb a3) (o7 _ _ _ _ _ _ _ _ _ rfl rfl) ?_
     obtain ⟨u4, o9, hrow89, d0⟩ := ZG Ag43 Sz43 rfl rfl e8
     obtain ⟨p0, p1, p2, rfl, d0, u5⟩ := Ws d0
     refine py 86 (.slice p0 p1 p2) (cb a3) (zo rfl (o9 _ (Chg.refl _ _))) (py 86 (.slice b5 b6 b7) (cb a3) (zt rfl) ?_)
     have hO := hO.fr2
     obtain ⟨r92, p3, hs⟩ := bind_some hs
     refine xf (tg := 86) (by kernel_rfl) (cb a3) Bd113 rfl (wz (M := (Less (Less M pf0) b8)) x87 s61 (d0.sub (M' := (Less (Less M pf0) b8)) (fun g h => .inl (by simp only [Less] at h ⊢; simp [h]))) (((Frz.os Frz.int)).val (b9.sub Less.sub) Less.sub Less.not) (hO.less).less.fut p3) ?_
     rintro _ u6 ⟨rfl, a6⟩
     obtain ⟨h0, a0, b9, d5, hrow84, d0, hrow89, hMid⟩ := xt8 a6 h0 a0 b9 d5 hrow84 d0 hrow89 hMid
     obtain ⟨e5, e6, e7, e8, hC, hO⟩ := xt6 a6 e5 e6 e7 e8 hC hO
     refine py 86 _ (cb a3) (XF rfl rfl) (za _ (ptb (cb a3) rfl) (zb ?_))
     cases hs
     exact ⟨_, fr_m 99 rfl, hMid⟩
    refine pn 86 (cb a3) (pn 86 (cb a3) (pn 86 (cb a3) (pn 86 (cb a3) (pn 86 (cb a3) (pn 86 (cb a3) (pn 86 (cb a3) (za _ (pfb (cb a3) rfl) (zb ?_))))))))
    cases hs
    exact ⟨_, fr_m 99 rfl, hMid⟩
   rintro c4 f8 ⟨σ, rfl, d1⟩
   obtain ⟨h0, a0, b9, hC, hO⟩ := xt5 d1 h0 a0 b9 hC hO
   rcases zf hs with ⟨e9, hs⟩ | ⟨e9, hs⟩
   ·refine zg (cb e9) (c_sr (ab rfl (zb (wp_ret ?_))))
    cases hs
    have hO := hO.drop.drop
    exact ⟨_, pf0, fr_m 99 rfl, hC, h0, hO.top⟩
   refine zh (cb e9) (wp_skip (c_sr (ms rfl (mi rfl (ms rfl ?_)))))
   obtain ⟨x94, p4, hs⟩ := bind_some hs
   obtain ⟨f9, u7, g0, p5, p6, p7, p8⟩ := zR Sl25 Sz43 h0 p4
   have u9 := Zv (Frz.onn Frz.int) p7 p8
   refine za _ (p6 _ _ _ _ _ _ _ _ _ rfl rfl) ?_
   obtain ⟨u97, p9, hs⟩ := bind_some hs
   have hO := hO.fr2
   obtain ⟨q0, q1, q2, f0, q3, f1⟩ := yn (P := Try.prog) (c' := [(.slice b5 b6 b7)]) g0 h0 p5 (fun g hg => hO.inM g (zA h0 g (by simpa using hg))) (UT b9 (os_nn b9 p9)) (hO.drop.perm (R := b8 ++ (b1 ++ ([]))) (by simp)).nd (fun g hg hq => hO.apart g hq (by simp only [List.mem_append, List.not_mem_nil, false_or, or_false] at hg ⊢; simp [hg])) (fun _ h => .inl h)
   have g1 : ∀ q ∈ [f9], q ∈ pf0 := fun q hq => zA h0 q (by rw [g0]; exact hq)
   refine Zk (w' := q0) (zV rfl rfl (q2 _ _ rfl Sz43)) ?_
   have hO := hO.fr1.fr1
   have a0 := a0.ma f0 hO g1 (fun _ e => (zl (zm (e))))
   have hC := hC.st f0 hO g1
   have hO := (hO.perm (R := pf0 ++ (b8 ++ (b1 ++ ([])))) (by simp)).eat f0 (fun q hq => (q3 q hq).elim .inl (fun h => .inr (.inl h))) (zw f1) f1.fpl
   refine zb (c_sr (ab rfl (zb (wp_ret ?_))))
   cases hs
   have hO := hO.fr1.drop
   exact ⟨_, q1, fr_m 99 rfl, hC, f1, hO.top⟩

theorem Bd102 : zC Try.prog 102 := zI Try.func102 (by kernel_rfl) rfl

theorem Bd103 : zC Try.prog 103 := zI Try.func103 (by kernel_rfl) rfl

def ZP (M : Nat → Prop) (w0 : World) (r : (List (List Int))) (a : Act) (w : World) : Prop :=
  ∃ (σ : Nat → Value) (ra0 : Option Addr) (rn0 rc0 : Nat) (rf0 : List Nat), a = fr 81 (ovl σ [(4, (.slice ra0 rn0 rc0))]) ∧ Chg [] w0 w ∧ (RT.os 43 (RT.on 3 (RT.int .i64))).val M w (.slice ra0 rn0 rc0) r rf0 ∧ Own (Nw w0 []) (fun _ => True) w (rf0 ++ ([]))
def ZU (gens : List (List Int)) (b0 : Int × (List (Int × (List Int))) × Int × (List (List Int)) × (List (ByteArray × Int))) : Option ((List (List Int))) :=
  (mks (b0.2.2.2.1.length : Int) ([] : List Int)).bind fun y7 =>
  (forC (S := (List (List Int))) (R := (List (List Int))) (fun k54 s52 =>
  (idx gens k54).bind fun x60 =>
  (Zu x60).bind fun r70 =>
  (idx s52 ((mget b0.2.2.2.2 r70).getD 0)).bind fun x71 =>
  (bif (List.isEmpty x71) then (idx s52 ((mget b0.2.2.2.2 r70).getD 0)).bind fun x78 =>
  (nne ([k54])).bind fun u81 =>
  some (.nx (List.set s52 (Int.toNat ((mget b0.2.2.2.2 r70).getD 0)) ([k54]))) else some (.nx s52))) 0 (gens.length : Int) y7).bind fun o56 => after o56 (fun r_ => some r_) (fun s52 =>
  (ZH (b0.1, b0.2.1, b0.2.2.1, b0.2.2.2.1, b0.2.2.2.2)).bind fun r83 =>
  (iter (S := Bool × (List (List Int))) (R := (List (List Int))) (fun s310 =>
  (bif s310.1 then (forC (S := Bool × (List (List Int))) (R := (List (List Int))) (fun k390 s388 =>
  (idx b0.2.1 k390).bind fun x396 =>
  (idx r83 k390).bind fun x402 =>
  (forC (S := Bool × (List (List Int))) (R := (List (List Int))) (fun k419 s417 =>
  (idx x402 k419).bind fun x425 =>
  (Za s417.2 k390 x396.1 k419 x425 (b0.1, b0.2.1, b0.2.2.1, b0.2.2.2.1, b0.2.2.2.2)).bind fun r428 =>
  (bif r428.1 then some (.nx (true, r428.2)) else some (.nx (s417.1, r428.2)))) 0 (x402.length : Int) (s388.1, s388.2)).bind fun o421 => after o421 (fun r_ => some (.rt r_)) (fun s417 =>
  some (.nx (s417.1, s417.2)))) 0 (b0.2.1.length : Int) (false, s310.2)).bind fun o392 => after o392 (fun r_ => some (.rt r_)) (fun s388 =>
  some (.nx (s388.1, s388.2))) else some (.br (s310.1, s310.2)))) FU (true, s52)).bind fun o314 => after o314 (fun r_ => some r_) (fun s310 =>
  some s310.2))
set_option maxHeartbeats 4000000 in
theorem Xw {M : Nat → Prop} {w : World} {vg0 : Nat} {pa0 : Option Addr} {pn0 pc0 : Nat} {va0x1 : Option Addr} {vn0x1 vc0x1 : Nat} {va0x3 : Option Addr} {vn0x3 vc0x3 : Nat} {vn0x4 : Nat} (gens : List (List Int)) (b0 : Int × (List (Int × (List Int))) × Int × (List (List Int)) × (List (ByteArray × Int))) (h0 : (RT.rs rl).val M w (.slice pa0 pn0 pc0) gens ([])) (hb0 : RBox M w vg0 81 [(iv b0.1), (.slice va0x1 vn0x1 vc0x1), (iv b0.2.2.1), (.slice va0x3 vn0x3 vc0x3), (.map (some vn0x4))]) (hl0x1 : (RT.rs (RT.pr ri rl)).val M w (.slice va0x1 vn0x1 vc0x1) b0.2.1 ([])) (hl0x3 : (RT.rs rl).val M w (.slice va0x3 vn0x3 vc0x3) b0.2.2.2.1 ([])) (hl0x4 : (RT.mr (Value.int .i64)).val M w (.map (some vn0x4)) b0.2.2.2.2 ([])) (hM : ∀ g, w.heap.size ≤ g → M g) {r : (List (List Int))} (hs : ZU gens b0 = some r) :
    Gives Try.prog 57 [(pq vg0 0), (.slice pa0 pn0 pc0)] w (fun v w' => ∃ (ra0 : Option Addr) (rn0 rc0 : Nat) (rf0 : List Nat), v = (.slice ra0 rn0 rc0) ∧ Chg [] w w' ∧ (RT.os 43 (RT.on 3 ri)).val M w' (.slice ra0 rn0 rc0) r rf0 ∧ Own (Nw w []) (fun _ => True) w' (rf0 ++ ([]))) := by
 refine zr Try.func57 rfl Try.ntmps57 (Nat.le_of_ble_eq_true rfl) ?_
 have hO := Own.start (N := Nw w []) hM Nw.fut
 have hC := Chg.refl [] w
 unfold ZU at hs
 refine wp_k (K := (ZP M w r)) (by rintro _ _ ⟨σ, ra0, rn0, rc0, rf0, rfl, hrest⟩; exact Zh Try.results57 (zB rfl) ⟨ra0, rn0, rc0, rf0, rfl, hrest⟩) (c_sr (ax rfl (zb (c_sr (mp rfl (za _ (Zw rfl) (za (pq vg0 3) (zk rfl Yt) (za _ (ld rfl Ag25 Sz25 hb0.1 rfl) (za _ (zn Sl25 (zu hl0x3) rfl) ?_)))))))))
 obtain ⟨y7, h3, hs⟩ := bind_some hs
 obtain ⟨a2, a3, a4, h4, h5, h6, c9, h7, e8⟩ := YI (M := M) (w := w) (r := (RT.on 3 ri)) Rw25 h3 (fun _ _ => on_nil)
 refine za (w' := h4) (.slice a2 a3 a4) (yL rfl rfl h6) ?_
 obtain ⟨h0, hl0x1, hl0x3, hl0x4, hb0, hC⟩ := xt6 c9 h0 hl0x1 hl0x3 hl0x4 hb0 hC
 have hO := hO.new c9 h7 (zw e8) e8.fpl
 refine ax rfl (zb (zd (c_sr (ms rfl (za _ (zn Sl25 (zu h0) rfl) (mi rfl (zb ?_)))))))
 obtain ⟨o56, h8, hs⟩ := bind_some hs
 refine wp_block (zW (id := 0) (gens.length : Int) (I := fun k54 s52 a a5 => ∃ (σ : Nat → Value) (c3 : List Nat), a = fr 81 (ovl σ [(0, (pq vg0 0)), (5, (.slice a2 a3 a4)), (21, (.slice pa0 pn0 pc0)), (22, (iv (gens.length : Int))), (23, (iv k54))]) ∧ Chg [] w a5 ∧ Own (Nw w []) M a5 (c3 ++ []) ∧ (RT.rs rl).val M a5 (.slice pa0 pn0 pc0) gens ([]) ∧ (RT.rs (RT.pr ri rl)).val M a5 (.slice va0x1 vn0x1 vc0x1) b0.2.1 ([]) ∧ (RT.rs rl).val M a5 (.slice va0x3 vn0x3 vc0x3) b0.2.2.2.1 ([]) ∧ (RT.mr (Value.int .i64)).val M a5 (.map (some vn0x4)) b0.2.2.2.2 ([]) ∧ RBox M a5 vg0 81 [(iv b0.1), (.slice va0x1 vn0x1 vc0x1), (iv b0.2.2.1), (.slice va0x3 vn0x3 vc0x3), (.map (some vn0x4))] ∧ (RT.os 43 (RT.on 3 ri)).val M a5 (.slice a2 a3 a4) s52 c3) (J := fun s52 a a5 => ∃ (σ : Nat → Value) (d4 : List Nat), a = fr 81 (ovl σ [(0, (pq vg0 0)), (5, (.slice a2 a3 a4))]) ∧ Chg [] w a5 ∧ Own (Nw w []) M a5 (d4 ++ []) ∧ (RT.rs rl).val M a5 (.slice pa0 pn0 pc0) gens ([]) ∧ (RT.rs (RT.pr ri rl)).val M a5 (.slice va0x1 vn0x1 vc0x1) b0.2.1 ([]) ∧ (RT.rs rl).val M a5 (.slice va0x3 vn0x3 vc0x3) b0.2.2.2.1 ([]) ∧ (RT.mr (Value.int .i64)).val M a5 (.map (some vn0x4)) b0.2.2.2.2 ([]) ∧ RBox M a5 vg0 81 [(iv b0.1), (.slice va0x1 vn0x1 vc0x1), (iv b0.2.2.1), (.slice va0x3 vn0x3 vc0x3), (.map (some vn0x4))] ∧ (RT.os 43 (RT.on 3 ri)).val M a5 (.slice a2 a3 a4) s52 d4) (K := (ZP M w)) ?_ ?_ 0 y7 o56 _ _ ?_ h8 ?_)
 ·rintro k54 s52 a a5 ⟨σ, c3, rfl, hC, hO, h0, hl0x1, hl0x3, hl0x4, hb0, a9⟩ hlt
  refine c_sr (za _ (zx rfl rfl) (zb (zd (zh (cb (decide_eq_false hlt)) (wp_exit ?_)))))
  exact ⟨rfl, _, c3, fr_m 81 rfl, hC, hO, h0, hl0x1, hl0x3, hl0x4, hb0, a9⟩
 ·rintro k54 s52 o56 a a5 ⟨σ, c3, rfl, hC, hO, h0, hl0x1, hl0x3, hl0x4, hb0, a9⟩ hlt hw hs
  refine c_sr (za _ (zx rfl rfl) (zb (zd (zg (cb (decide_eq_true hlt)) (wp_skip (zd (wp_block (c_sr (mi rfl ?_)))))))))
  obtain ⟨x60, h9, hs⟩ := bind_some hs
  obtain ⟨i0, i1, i2, i3⟩ := zN Sl25 Sz43 h0 h9
  refine za _ (i2 _ _ _ _ _ _ _ _ _ rfl rfl) ?_
  obtain ⟨o6, i4, d5⟩ := Zj Ag43 Sz43 (fun _ => rfl) i3
  obtain ⟨e9, f0, f1, rfl⟩ := yd d5
  refine za (.slice e9 f0 f1) (zo rfl (i4 _ (Chg.refl _ _))) (ai rfl (ax rfl (zb (zd (Ze [] Mx rfl ?_)))))
  have b9 := Chg.drew a5
  generalize World.drew a5 = i5 at b9 ⊢
  obtain ⟨h0, hl0x1, hl0x3, hl0x4, hb0, a9, d5, hC⟩ := xt8 b9 h0 hl0x1 hl0x3 hl0x4 hb0 a9 d5 hC
  have hO := hO.ext b9
  have hS := Chg.refl [] i5
  refine xmp 0 rfl rfl hS (xq 1 _ rfl (Zw rfl) hS (xq 2 (pq vg0 4) rfl (zk rfl VH) hS (xl 3 rfl (ldx rfl Ag79 Sz79 hb0.1 rfl) hS (xms 4 rfl rfl hS (zP (i := 5) (by kernel_rfl) ?_)))))
  obtain ⟨r70, i6, hs⟩ := bind_some hs
  refine zZ (b := false) rfl  Bd59 rfl (xg (M := M) x60 d5 hO.fut i6) rfl (by rintro _ _ _ ⟨rfl, b5⟩; exact hS.ext b5) ?_
  rintro _ i7 ⟨rfl, b5⟩
  obtain ⟨h0, hl0x1, hl0x3, hl0x4, hb0, a9, d5, hC⟩ := xt8 b5 h0 hl0x1 hl0x3 hl0x4 hb0 a9 d5 hC
  obtain ⟨hO, hS⟩ := xt2 b5 hO hS
  refine zP (i := 6) (by kernel_rfl) (zS (b := false) (iv ((mget b0.2.2.2.2 r70).getD 0)) rfl  (y_look (enc := (Value.int .i64)) Try.underlying79 Try.underlying9 Zv3 (mr_at hl0x4) rfl rfl) rfl (fun _ => hS) (xq 7 (iv ((mget b0.2.2.2.2 r70).getD 0)) rfl (zE rfl) hS (Zc (by kernel_rfl) ?_)))
  clear hS
  refine c_sr (ms rfl (mi rfl ?_))
  obtain ⟨x71, i9, hs⟩ := bind_some hs
  obtain ⟨j0, o7, o8, o9, j1, j2, j3⟩ := zR Sl25 Sz43 a9 i9
  have j4 := Zv (Frz.onn Frz.int) j2 j3
  refine za _ (j1 _ _ _ _ _ _ _ _ _ rfl rfl) ?_
  obtain ⟨p0, j5, hrow73, g0⟩ := ZG Ag43 Sz43 rfl rfl j4
  obtain ⟨j6, j7, j8, rfl, g0, j9⟩ := Ws g0
  refine za (.slice j6 j7 j8) (zo rfl (j5 _ (Chg.refl _ _))) (za (.bool (List.isEmpty x71)) (y_nil Try.underlying43 rfl rfl j9) (zb ?_))
  rcases zf hs with ⟨f2, hs⟩ | ⟨f2, hs⟩
  ·refine zg (cb f2) (ze (ms rfl (mi rfl (mi rfl ?_))))
   obtain ⟨g1, d6, k0, g2, c4, g3⟩ := zi i7 [(iv k54)] 3
   refine za (w' := g1) (.slice (some ⟨d6, 0, none⟩) 1 1) (zG rfl (by rw [k0, g2]; kernel_rfl)) ?_
   obtain ⟨h0, hl0x1, hl0x3, hl0x4, hb0, a9, hC⟩ := xt7 c4 h0 hl0x1 hl0x3 hl0x4 hb0 a9 hC
   have hO := hO.new1 c4 g2 g3.lt
   have e1 := zT (r := ri) (M := M) (css := [[(iv k54)]]) (fps := [([] : List Nat)]) (xs := ([k54] : List Int)) g3 ⟨⟨rfl, rfl⟩, trivial⟩ (Nat.le_of_ble_eq_true rfl) (List.nodup_cons.2 ⟨(fun h => nomatch h), List.nodup_nil⟩)
   have e1 : (RT.os 3 ri).val M g1 (.slice (some ⟨d6, 0, none⟩) 1 1) [k54] [d6] := e1
   obtain ⟨x78, k1, hs⟩ := bind_some hs
   obtain ⟨g4, p1, g5, k2, k3, k4, k5⟩ := zR Sl25 Sz43 a9 k1
   have p2 := Zv (Frz.onn Frz.int) k4 k5
   refine za _ (k3 _ _ _ _ _ _ _ _ _ rfl rfl) ?_
   obtain ⟨u81, k6, hs⟩ := bind_some hs
   have hO := hO.fr1
   obtain ⟨k7, k8, k9, d0, l0, f3⟩ := yn (P := Try.prog) (c' := [(.slice (some ⟨d6, 0, none⟩) 1 1)]) g5 a9 k2 (fun g hg => hO.inM g (zA a9 g (by simpa using hg))) (UT e1 (os_nn e1 k6)) (hO.drop.perm (R := ([d6]) ++ ([])) (by simp)).nd (fun g hg hq => hO.apart g hq (by simp only [List.mem_append, List.not_mem_nil, false_or, or_false] at hg ⊢; simp [hg])) (fun _ h => .inl h)
   have d7 : ∀ q ∈ [g4], q ∈ c3 := fun q hq => zA a9 q (by rw [g5]; exact hq)
   refine Zk (w' := k7) (zV rfl rfl (k9 _ _ rfl Sz43)) ?_
   have hO := hO.fr1.fr1
   have h0 := h0.mt d0 hO d7
   have hl0x1 := hl0x1.mt d0 hO d7
   have hl0x3 := hl0x3.mt d0 hO d7
   have hl0x4 := hl0x4.mt d0 hO d7
   have hb0 := hb0.mut d0 (fun q hq => hO.inM q (d7 q hq))
   have hC := hC.st d0 hO d7
   have hO := (hO.perm (R := c3 ++ (([d6]) ++ ([]))) (by simp)).eat d0 (fun q hq => (l0 q hq).elim .inl (fun h => .inr (.inl h))) (zw f3) f3.fpl
   refine zb (ze (za _ (yad rfl rfl) (mi rfl (zb ?_))))
   cases hs
   exact ⟨_, k8, zD 81 ⟨rfl, rfl, rfl, rfl, congrArg (Value.int .i64) hw, trivial⟩, hC, hO, h0, hl0x1, hl0x3, hl0x4, hb0, f3⟩
  refine zh (cb f2) (wp_skip (ze (za _ (yad rfl rfl) (mi rfl (zb ?_)))))
  cases hs
  exact ⟨_, c3, zD 81 ⟨rfl, rfl, rfl, rfl, congrArg (Value.int .i64) hw, trivial⟩, hC, hO, h0, hl0x1, hl0x3, hl0x4, hb0, a9⟩
 ·skip
  exact ⟨_, h5, fr_m 81 rfl, hC, hO, h0, hl0x1, hl0x3, hl0x4, hb0, e8⟩
 cases o56 with
 | nx _ => exact True.intro
 | rt r_ =>
  have hs := zp hs
  intro d1 e0 hK
  cases hs
  exact hK
 | br s52 =>
  have hs := zq hs
  rintro d1 a5 ⟨σ, d4, rfl, hC, hO, h0, hl0x1, hl0x3, hl0x4, hb0, f4⟩
  refine c_sr (mp rfl ?_)
  obtain ⟨r83, l1, hs⟩ := bind_some hs
  refine zy Bd102 rfl (Xj (M := M) (b0.1, b0.2.1, b0.2.2.1, b0.2.2.2.1, b0.2.2.2.2) (show RBox M _ vg0 81 [(iv b0.1), (.slice va0x1 vn0x1 vc0x1), (iv b0.2.2.1), (.slice va0x3 vn0x3 vc0x3), (.map (some vn0x4))] from hb0) hl0x1 hl0x3 hl0x4 hO.fut l1) ?_
  rintro _ p3 ⟨b1, b2, b3, a8, rfl, c5, a1, l2⟩
  have hO := hO.perm (R := [] ++ (d4 ++ ([]))) (by simp)
  obtain ⟨h0, hl0x1, hl0x3, hl0x4, hb0, f4, hC⟩ := xt7 c5 h0 hl0x1 hl0x3 hl0x4 hb0 f4 hC
  have hO := Own.join hO c5 l2
  have hO := hO.perm (R := a8 ++ (d4 ++ ([]))) (by simp)
  refine ax rfl (zb (zd (c_sr (ab rfl (zb ?_)))))
  obtain ⟨o314, l3, hs⟩ := bind_some hs
  refine wp_block (Zt (id := 2) (I := fun s310 a a7 => ∃ (σ : Nat → Value) (d9 : List Nat), a = fr 81 (ovl σ [(0, (pq vg0 0)), (5, (.slice a2 a3 a4)), (9, (.slice b1 b2 b3)), (10, (.bool s310.1))]) ∧ Chg [] w a7 ∧ Own (Nw w []) M a7 (a8 ++ (d9 ++ [])) ∧ (RT.rs (RT.pr ri rl)).val M a7 (.slice va0x1 vn0x1 vc0x1) b0.2.1 ([]) ∧ (RT.rs rl).val M a7 (.slice va0x3 vn0x3 vc0x3) b0.2.2.2.1 ([]) ∧ (RT.mr (Value.int .i64)).val M a7 (.map (some vn0x4)) b0.2.2.2.2 ([]) ∧ RBox M a7 vg0 81 [(iv b0.1), (.slice va0x1 vn0x1 vc0x1), (iv b0.2.2.1), (.slice va0x3 vn0x3 vc0x3), (.map (some vn0x4))] ∧ (RT.os 43 (RT.on 3 ri)).val M a7 (.slice a2 a3 a4) s310.2 d9 ∧ (RT.os 43 (RT.os 3 ri)).val M a7 (.slice b1 b2 b3) r83 a8) (J := fun s310 a a7 => ∃ (σ : Nat → Value) (e2 : List Nat), a = fr 81 (ovl σ [(5, (.slice a2 a3 a4))]) ∧ Chg [] w a7 ∧ Own (Nw w []) M a7 (a8 ++ (e2 ++ [])) ∧ (RT.rs (RT.pr ri rl)).val M a7 (.slice va0x1 vn0x1 vc0x1) b0.2.1 ([]) ∧ (RT.rs rl).val M a7 (.slice va0x3 vn0x3 vc0x3) b0.2.2.2.1 ([]) ∧ (RT.mr (Value.int .i64)).val M a7 (.map (some vn0x4)) b0.2.2.2.2 ([]) ∧ RBox M a7 vg0 81 [(iv b0.1), (.slice va0x1 vn0x1 vc0x1), (iv b0.2.2.1), (.slice va0x3 vn0x3 vc0x3), (.map (some vn0x4))] ∧ (RT.os 43 (RT.on 3 ri)).val M a7 (.slice a2 a3 a4) s310.2 e2 ∧ (RT.os 43 (RT.os 3 ri)).val M a7 (.slice b1 b2 b3) r83 a8) (K := (ZP M w)) ?_ FU (true, s52) o314 _ _ ?_ l3 ?_)
  ·rintro s310 o314 a a7 ⟨σ, d9, rfl, hC, hO, hl0x1, hl0x3, hl0x4, hb0, g6, a1⟩ hs
   refine zd (c_sr (mb rfl (zb ?_)))
   rcases zf hs with ⟨f5, hs⟩ | ⟨f5, hs⟩
   ·refine zg (cb f5) (wp_skip (wp_block (c_sr (ab rfl (zb (c_sr (mp rfl (za _ (Zw rfl) (za (pq vg0 0) (zk rfl vV) (za (pq vg0 1) (zk rfl ZD) (za _ (ld rfl Ag33 Sz33 hb0.1 rfl) (za _ (zn Sl33 (zu hl0x1) rfl) (mi rfl (zb ?_))))))))))))))
    obtain ⟨o392, l4, hs⟩ := bind_some hs
    refine wp_block (zW (id := 4) (b0.2.1.length : Int) (I := fun k390 s388 a a6 => ∃ (σ : Nat → Value) (d8 : List Nat), a = fr 81 (ovl σ [(0, (pq vg0 0)), (5, (.slice a2 a3 a4)), (9, (.slice b1 b2 b3)), (10, (.bool s388.1)), (53, (.slice va0x1 vn0x1 vc0x1)), (54, (iv (b0.2.1.length : Int))), (55, (iv k390))]) ∧ Chg [] w a6 ∧ Own (Nw w []) M a6 (a8 ++ (d8 ++ [])) ∧ (RT.rs (RT.pr ri rl)).val M a6 (.slice va0x1 vn0x1 vc0x1) b0.2.1 ([]) ∧ (RT.rs rl).val M a6 (.slice va0x3 vn0x3 vc0x3) b0.2.2.2.1 ([]) ∧ (RT.mr (Value.int .i64)).val M a6 (.map (some vn0x4)) b0.2.2.2.2 ([]) ∧ RBox M a6 vg0 81 [(iv b0.1), (.slice va0x1 vn0x1 vc0x1), (iv b0.2.2.1), (.slice va0x3 vn0x3 vc0x3), (.map (some vn0x4))] ∧ (RT.os 43 (RT.on 3 ri)).val M a6 (.slice a2 a3 a4) s388.2 d8 ∧ (RT.os 43 (RT.os 3 ri)).val M a6 (.slice b1 b2 b3) r83 a8) (J := fun s388 a a6 => ∃ (σ : Nat → Value) (e3 : List Nat), a = fr 81 (ovl σ [(0, (pq vg0 0)), (5, (.slice a2 a3 a4)), (9, (.slice b1 b2 b3)), (10, (.bool s388.1))]) ∧ Chg [] w a6 ∧ Own (Nw w []) M a6 (a8 ++ (e3 ++ [])) ∧ (RT.rs (RT.pr ri rl)).val M a6 (.slice va0x1 vn0x1 vc0x1) b0.2.1 ([]) ∧ (RT.rs rl).val M a6 (.slice va0x3 vn0x3 vc0x3) b0.2.2.2.1 ([]) ∧ (RT.mr (Value.int .i64)).val M a6 (.map (some vn0x4)) b0.2.2.2.2 ([]) ∧ RBox M a6 vg0 81 [(iv b0.1), (.slice va0x1 vn0x1 vc0x1), (iv b0.2.2.1), (.slice va0x3 vn0x3 vc0x3), (.map (some vn0x4))] ∧ (RT.os 43 (RT.on 3 ri)).val M a6 (.slice a2 a3 a4) s388.2 e3 ∧ (RT.os 43 (RT.os 3 ri)).val M a6 (.slice b1 b2 b3) r83 a8) (K := (ZP M w)) ?_ ?_ 0 (false, s310.2) o392 _ _ ?_ l4 ?_)
    ·rintro k390 s388 a a6 ⟨σ, d8, rfl, hC, hO, hl0x1, hl0x3, hl0x4, hb0, d2, a1⟩ hlt
     refine c_sr (za _ (zx rfl rfl) (zb (zd (zh (cb (decide_eq_false hlt)) (wp_exit ?_)))))
     have hO := hO.fr1.fr1
     exact ⟨rfl, _, d8, fr_m 81 rfl, hC, hO, hl0x1, hl0x3, hl0x4, hb0, d2, a1⟩
    ·rintro k390 s388 o392 a a6 ⟨σ, d8, rfl, hC, hO, hl0x1, hl0x3, hl0x4, hb0, d2, a1⟩ hlt hw hs
     refine c_sr (za _ (zx rfl rfl) (zb (zd (zg (cb (decide_eq_true hlt)) (wp_skip (zd (wp_block (c_sr (mi rfl ?_)))))))))
     obtain ⟨x396, l5, hs⟩ := bind_some hs
     obtain ⟨l6, l7, l8, f6⟩ := zN Sl33 Sz89 hl0x1 l5
     refine za _ (l8 _ _ _ _ _ _ _ _ _ rfl rfl) ?_
     obtain ⟨p4, l9, m0⟩ := Zj Ag89 Sz89 (by intro h; cases h) f6
     obtain ⟨p5, rfl, m1⟩ := m0
     obtain ⟨p6, p7, rfl, m2, m3⟩ := Yz m1
     obtain rfl := YN m2
     obtain ⟨c6, c7, c8, rfl, b4⟩ := xp m3
     refine za (.agg #[(iv x396.1), (.slice c6 c7 c8)]) (zo rfl (l9 _ (Chg.refl _ _))) ?_
     obtain ⟨m4, b8, m5, g7, c0, g8⟩ := zi a6 [(iv 0), (.slice none 0 0)] 89
     refine za (w' := m4) (pq b8 0) (xa (by rw [m5, g7]; kernel_rfl)) ?_
     obtain ⟨hl0x1, hl0x3, hl0x4, hb0, d2, a1, b4, f6⟩ := xt8 c0 hl0x1 hl0x3 hl0x4 hb0 d2 a1 b4 f6
     have hC := hC.ext c0
     have hO := hO.new1 c0 g7 g8.lt
     refine ai rfl ?_
     obtain ⟨g9, m6, c2, b6⟩ := ZA (P := Try.prog) g8 [] [(iv 0), (.slice none 0 0)] [] [(iv x396.1), (.slice c6 c7 c8)] rfl rfl (by intro u hu; simp only [List.mem_cons, List.not_mem_nil, or_false] at hu; rcases hu with rfl | rfl <;> rfl)
     refine Zk (w' := g9) (zV rfl rfl (m6 _ _ rfl Sz89)) ?_
     have hl0x1 := hl0x1.mt c2 hO zj
     have hl0x3 := hl0x3.mt c2 hO zj
     have hl0x4 := hl0x4.mt c2 hO zj
     have hb0 := hb0.mut c2 (fun q hq => hO.inM q ((fun _ h => h) q hq))
     have d2 := d2.ma c2 hO zj (fun _ e => (zl (zm (e))))
     have a1 := a1.ma c2 hO zj (fun _ e => (zm (e)))
     have b4 := b4.mt c2 hO zj
     have hC := hC.st c2 hO zj
     have hO := hO.ext c2
     have b6 : BoxV g9 b8 89 [(iv x396.1), (.slice c6 c7 c8)] := b6
     refine zb (c_sr (ms rfl (mi rfl ?_)))
     obtain ⟨x402, m7, hs⟩ := bind_some hs
     obtain ⟨m8, p8, p9, q0, m9, n0, n1⟩ := zR Sl25 Sz43 a1 m7
     have n2 := Zv (Frz.os Frz.int) n0 n1
     refine za _ (m9 _ _ _ _ _ _ _ _ _ rfl rfl) ?_
     obtain ⟨q1, n3, hrow404, b7⟩ := ZG Ag43 Sz43 rfl rfl n2
     obtain ⟨e4, e5, e6, rfl⟩ := yd b7
     refine za (.slice e4 e5 e6) (zo rfl (n3 _ (Chg.refl _ _))) (za _ (zn Sl43 (zu b7) rfl) (mi rfl (zb ?_)))
     obtain ⟨o421, n4, hs⟩ := bind_some hs
     refine wp_block (zW (id := 6) (x402.length : Int) (I := fun k419 s417 a a0 => ∃ (σ : Nat → Value) (d3 : List Nat), a = fr 81 (ovl σ [(0, (pq vg0 0)), (5, (.slice a2 a3 a4)), (9, (.slice b1 b2 b3)), (10, (.bool s417.1)), (11, (iv k390)), (12, (pq b8 0)), (53, (.slice va0x1 vn0x1 vc0x1)), (54, (iv (b0.2.1.length : Int))), (55, (iv k390)), (63, (.slice e4 e5 e6)), (64, (iv (x402.length : Int))), (65, (iv k419))]) ∧ Chg [] w a0 ∧ Own (Nw w []) M a0 (([b8]) ++ (a8 ++ (d3 ++ []))) ∧ (RT.rs (RT.pr ri rl)).val M a0 (.slice va0x1 vn0x1 vc0x1) b0.2.1 ([]) ∧ (RT.rs rl).val M a0 (.slice va0x3 vn0x3 vc0x3) b0.2.2.2.1 ([]) ∧ (RT.mr (Value.int .i64)).val M a0 (.map (some vn0x4)) b0.2.2.2.2 ([]) ∧ RBox M a0 vg0 81 [(iv b0.1), (.slice va0x1 vn0x1 vc0x1), (iv b0.2.2.1), (.slice va0x3 vn0x3 vc0x3), (.map (some vn0x4))] ∧ (RT.os 43 (RT.on 3 ri)).val M a0 (.slice a2 a3 a4) s417.2 d3 ∧ (RT.os 43 (RT.os 3 ri)).val M a0 (.slice b1 b2 b3) r83 a8 ∧ rl.val M a0 (.slice c6 c7 c8) x396.2 ([]) ∧ BoxV a0 b8 89 [(iv x396.1), (.slice c6 c7 c8)] ∧ rl.val (Less M a8) a0 (.slice e4 e5 e6) x402 ([])) (J := fun s417 a a0 => ∃ (σ : Nat → Value) (e7 : List Nat), a = fr 81 (ovl σ [(0, (pq vg0 0)), (5, (.slice a2 a3 a4)), (9, (.slice b1 b2 b3)), (10, (.bool s417.1)), (53, (.slice va0x1 vn0x1 vc0x1)), (54, (iv (b0.2.1.length : Int))), (55, (iv k390))]) ∧ Chg [] w a0 ∧ Own (Nw w []) M a0 (([b8]) ++ (a8 ++ (e7 ++ []))) ∧ (RT.rs (RT.pr ri rl)).val M a0 (.slice va0x1 vn0x1 vc0x1) b0.2.1 ([]) ∧ (RT.rs rl).val M a0 (.slice va0x3 vn0x3 vc0x3) b0.2.2.2.1 ([]) ∧ (RT.mr (Value.int .i64)).val M a0 (.map (some vn0x4)) b0.2.2.2.2 ([]) ∧ RBox M a0 vg0 81 [(iv b0.1), (.slice va0x1 vn0x1 vc0x1), (iv b0.2.2.1), (.slice va0x3 vn0x3 vc0x3), (.map (some vn0x4))] ∧ (RT.os 43 (RT.on 3 ri)).val M a0 (.slice a2 a3 a4) s417.2 e7 ∧ (RT.os 43 (RT.os 3 ri)).val M a0 (.slice b1 b2 b3) r83 a8 ∧ rl.val M a0 (.slice c6 c7 c8) x396.2 ([]) ∧ BoxV a0 b8 89 [(iv x396.1), (.slice c6 c7 c8)] ∧ rl.val (Less M a8) a0 (.slice e4 e5 e6) x402 ([])) (K := (ZP M w)) ?_ ?_ 0 (s388.1, s388.2) o421 _ _ ?_ n4 ?_)
     ·rintro k419 s417 a a0 ⟨σ, d3, rfl, hC, hO, hl0x1, hl0x3, hl0x4, hb0, f7, a1, b4, b6, b7⟩ hlt
      refine c_sr (za _ (zx rfl rfl) (zb (zd (zh (cb (decide_eq_false hlt)) (wp_exit ?_)))))
      have hO := hO.fr2.fr2.fr2
      exact ⟨rfl, _, d3, fr_m 81 rfl, hC, hO, hl0x1, hl0x3, hl0x4, hb0, f7, a1, b4, b6, b7⟩
     ·rintro k419 s417 o421 a a0 ⟨σ, d3, rfl, hC, hO, hl0x1, hl0x3, hl0x4, hb0, f7, a1, b4, b6, b7⟩ hlt hw hs
      refine c_sr (za _ (zx rfl rfl) (zb (zd (zg (cb (decide_eq_true hlt)) (wp_skip (zd (wp_block (c_sr (mi rfl ?_)))))))))
      obtain ⟨x425, n5, hs⟩ := bind_some hs
      obtain ⟨n6, n7, n8, n9⟩ := zN Sl43 Sz3 b7 n5
      refine za _ (n8 _ _ _ _ _ _ _ _ _ rfl rfl) (za (iv x425) (zo rfl ((zz Ag3 Sz3 n9) _ (Chg.refl _ _))) (ai rfl (ai rfl (zb (c_sr (mp rfl (ms rfl (mi rfl (za (pq b8 0) (zk rfl yM) (za _ (ld rfl Ag3 Sz3 b6 rfl) (mi rfl (mi rfl ?_))))))))))))
      have hO := hO.fr2
      have o0 := hO
      have h1 := Own.lend (F := (d3 ++ ([]))) (R := ([b8]) ++ (a8 ++ ([]))) (Own.perm (o0) (by simp))
      obtain ⟨r428, o1, hs⟩ := bind_some hs
      refine zy Bd103 rfl (Wj (M := M) s417.2 k390 x396.1 k419 x425 (b0.1, b0.2.1, b0.2.2.1, b0.2.2.2.1, b0.2.2.2.2) f7 (show RBox M _ vg0 81 [(iv b0.1), (.slice va0x1 vn0x1 vc0x1), (iv b0.2.2.1), (.slice va0x3 vn0x3 vc0x3), (.map (some vn0x4))] from hb0) hl0x1 hl0x3 hl0x4 h1 h1.fut o1) ?_
      rintro _ q2 ⟨f8, rfl, c1, h2, o2⟩
      have hO := hO.perm (R := (d3 ++ ([])) ++ (([b8]) ++ (a8 ++ ([])))) (by simp)
      have hl0x1 := hl0x1.mt c1 hO zj
      have hl0x3 := hl0x3.mt c1 hO zj
      have hl0x4 := hl0x4.mt c1 hO zj
      have hb0 := hb0.mut c1 (fun q hq => hO.inM q ((fun _ h => h) q hq))
      have a1 := a1.ma c1 hO zj (fun _ e => (zl (zm (e))))
      have b4 := b4.mt c1 hO zj
      have b6 := b6.ap c1 hO zj (zm (List.mem_singleton.2 rfl))
      have b7 := b7.mut c1 (fun g hg => ⟨hO.inM g ((fun _ h => h) g hg), fun e => hO.apart g ((fun _ h => h) g hg) (zl (zm (e)))⟩) (fun _ _ h => nomatch h)
      have hC := hC.st c1 hO zj
      have hO := Own.join hO c1 o2
      have hO := hO.perm (R := f8 ++ (([b8]) ++ (a8 ++ ([])))) (by simp)
      refine zb ?_
      rcases zf hs with ⟨f9, hs⟩ | ⟨f9, hs⟩
      ·refine zg (cb f9) (ze (ab rfl (zb (ze (za _ (yad rfl rfl) (mi rfl (zb ?_)))))))
       cases hs
       have hO := hO.fr2.fr2
       exact ⟨_, f8, zD 81 ⟨rfl, rfl, rfl, rfl, rfl, rfl, rfl, rfl, rfl, rfl, rfl, congrArg (Value.int .i64) hw, trivial⟩, hC, hO, hl0x1, hl0x3, hl0x4, hb0, h2, a1, b4, b6, b7⟩
      refine zh (cb f9) (wp_skip (ze (za _ (yad rfl rfl) (mi rfl (zb ?_)))))
      cases hs
      have hO := hO.fr2.fr2
      exact ⟨_, f8, zD 81 ⟨rfl, rfl, rfl, rfl, rfl, rfl, rfl, rfl, rfl, rfl, rfl, congrArg (Value.int .i64) hw, trivial⟩, hC, hO, hl0x1, hl0x3, hl0x4, hb0, h2, a1, b4, b6, b7⟩
     ·skip
      have hO := hO.fr2.fr2.fr2
      exact ⟨_, d8, fr_m 81 rfl, hC, hO, hl0x1, hl0x3, hl0x4, hb0, d2, a1, b4, b6, b7⟩
     cases o421 with
     | nx _ => exact True.intro
     | rt r_ =>
      have hs := zp hs
      intro d1 e0 hK
      cases hs
      exact hK
     | br s417 =>
      have hs := zq hs
      rintro d1 a0 ⟨σ, e7, rfl, hC, hO, hl0x1, hl0x3, hl0x4, hb0, o3, a1, b4, b6, b7⟩
      refine ze (za _ (yad rfl rfl) (mi rfl (zb ?_)))
      cases hs
      have hO := hO.drop.fr1.fr1
      exact ⟨_, e7, zD 81 ⟨rfl, rfl, rfl, rfl, rfl, rfl, congrArg (Value.int .i64) hw, trivial⟩, hC, hO, hl0x1, hl0x3, hl0x4, hb0, o3, a1⟩
    ·skip
     have hO := hO.fr1.fr1
     exact ⟨_, d9, fr_m 81 rfl, hC, hO, hl0x1, hl0x3, hl0x4, hb0, g6, a1⟩
    cases o392 with
    | nx _ => exact True.intro
    | rt r_ =>
     have hs := zp hs
     intro d1 e0 hK
     cases hs
     exact hK
    | br s388 =>
     have hs := zq hs
     rintro d1 a6 ⟨σ, e3, rfl, hC, hO, hl0x1, hl0x3, hl0x4, hb0, o4, a1⟩
     cases hs
     have hO := hO.fr1.fr1
     exact ⟨_, e3, fr_m 81 rfl, hC, hO, hl0x1, hl0x3, hl0x4, hb0, o4, a1⟩
   refine zh (cb f5) (wp_exit ?_)
   cases hs
   have hO := hO.fr1.fr1
   exact ⟨rfl, _, d9, fr_m 81 rfl, hC, hO, hl0x1, hl0x3, hl0x4, hb0, g6, a1⟩
  ·skip
   have hO := hO.fr1.fr1
   exact ⟨_, d4, fr_m 81 rfl, hC, hO, hl0x1, hl0x3, hl0x4, hb0, f4, a1⟩
  cases o314 with
  | nx _ => exact True.intro
  | rt r_ =>
   have hs := zp hs
   intro d1 e0 hK
   cases hs
   exact hK
  | br s310 =>
   have hs := zq hs
   rintro d1 a7 ⟨σ, e2, rfl, hC, hO, hl0x1, hl0x3, hl0x4, hb0, o5, a1⟩
   refine c_sr (ms rfl (ax rfl (zb (wp_ret ?_))))
   cases hs
   have hO := hO.drop
   exact ⟨_, a2, a3, a4, e2, fr_m 81 rfl, hC, o5, hO.top⟩

theorem Ag76 : AggT Try.prog 76 false := fun _ => by kernel_rfl

theorem Bd57 : zC Try.prog 57 := zI Try.func57 (by kernel_rfl) rfl

def xY (M : Nat → Prop) (w0 : World) (r : (List (List Int)) × Bool) (a : Act) (w : World) : Prop :=
  ∃ (σ : Nat → Value) (ra0 : Option Addr) (rn0 rc0 : Nat) (rf0 : List Nat), a = fr 26 (ovl σ [(2, (.slice ra0 rn0 rc0)), (3, (.bool r.2))]) ∧ Chg [] w0 w ∧ (RT.os 43 (RT.os 3 (RT.int .i64))).val M w (.slice ra0 rn0 rc0) r.1 rf0 ∧ Own (Nw w0 []) (fun _ => True) w (rf0 ++ ([]))
def yN (b0 : Int × (List (List Int))) (b1 : Int × (List (Int × (List Int))) × Int × (List (List Int)) × (List (ByteArray × Int))) : Option ((List (List Int)) × Bool) :=
  (ZU b0.2 (b1.1, b1.2.1, b1.2.2.1, b1.2.2.2.1, b1.2.2.2.2)).bind fun r13 =>
  (forR (S := Unit) (R := (List (List Int)) × Bool) (fun _ x22 s19 =>
  (bif (List.isEmpty x22) then some (.rt ([], false)) else some (.nx ()))) 0 r13 ()).bind fun o23 => after o23 (fun r_ => some r_) (fun s19 =>
  some (r13, true))
set_option maxHeartbeats 4000000 in
theorem Wc {M : Nat → Prop} {w : World} {vg0 : Nat} {vg1 : Nat} {va0x2 : Option Addr} {vn0x2 vc0x2 : Nat} {va1x1 : Option Addr} {vn1x1 vc1x1 : Nat} {va1x3 : Option Addr} {vn1x3 vc1x3 : Nat} {vn1x4 : Nat} (b0 : Int × (List (List Int))) (b1 : Int × (List (Int × (List Int))) × Int × (List (List Int)) × (List (ByteArray × Int))) (hb0 : RBox M w vg0 108 [(pq vg1 0), (iv b0.1), (.slice va0x2 vn0x2 vc0x2)]) (hl0x2 : (RT.rs rl).val M w (.slice va0x2 vn0x2 vc0x2) b0.2 ([])) (hb1 : RBox M w vg1 81 [(iv b1.1), (.slice va1x1 vn1x1 vc1x1), (iv b1.2.2.1), (.slice va1x3 vn1x3 vc1x3), (.map (some vn1x4))]) (hl1x1 : (RT.rs (RT.pr ri rl)).val M w (.slice va1x1 vn1x1 vc1x1) b1.2.1 ([])) (hl1x3 : (RT.rs rl).val M w (.slice va1x3 vn1x3 vc1x3) b1.2.2.2.1 ([])) (hl1x4 : (RT.mr (Value.int .i64)).val M w (.map (some vn1x4)) b1.2.2.2.2 ([])) (hM : ∀ g, w.heap.size ≤ g → M g) {r : (List (List Int)) × Bool} (hs : yN b0 b1 = some r) :
    Gives Try.prog 63 [(pq vg0 0)] w (fun v w' => ∃ (ra0 : Option Addr) (rn0 rc0 : Nat) (rf0 : List Nat), v = (.tuple #[(.slice ra0 rn0 rc0), (.bool r.2)]) ∧ Chg [] w w' ∧ (RT.os 43 (RT.os 3 ri)).val M w' (.slice ra0 rn0 rc0) r.1 rf0 ∧ Own (Nw w []) (fun _ => True) w' (rf0 ++ ([]))) := by
 refine zr Try.func63 rfl Try.ntmps63 (Nat.le_of_ble_eq_true rfl) ?_
 have hO := Own.start (N := Nw w []) hM Nw.fut
 have hC := Chg.refl [] w
 unfold yN at hs
 refine wp_k (K := (xY M w r)) (by rintro _ _ ⟨σ, ra0, rn0, rc0, rf0, rfl, hrest⟩; exact wE Try.results63 (zB rfl) (zB rfl) ⟨ra0, rn0, rc0, rf0, rfl, hrest⟩) (c_sr (ax rfl (ab rfl (zb (zd (Ze [8] Mx rfl ?_))))))
 have a6 := Chg.drew w
 generalize World.drew w = b7 at a6 ⊢
 obtain ⟨hl0x2, hb0, hl1x1, hl1x3, hl1x4, hb1, hC, hO⟩ := xt8 a6 hl0x2 hb0 hl1x1 hl1x3 hl1x4 hb1 hC hO
 have hS := Chg.refl [] b7
 refine xmp 0 rfl rfl hS (xq 1 _ rfl (Zw rfl) hS (xq 2 (pq vg0 0) rfl (zk rfl Fa108x0) hS (xl 3 rfl (ldx rfl Ag76 Sz76 hb0.1 rfl) hS (xmp 4 rfl rfl hS (xq 5 _ rfl (Zw rfl) hS (xq 6 (pq vg0 2) rfl (zk rfl vN) hS (xl 7 rfl (ldx rfl Ag25 Sz25 hb0.1 rfl) hS (zP (i := 8) (by kernel_rfl) ?_))))))))
 obtain ⟨r13, b8, hs⟩ := bind_some hs
 refine zZ (b := true) rfl  Bd57 rfl (Xw (M := M) b0.2 (b1.1, b1.2.1, b1.2.2.1, b1.2.2.2.1, b1.2.2.2.2) hl0x2 (show RBox M _ vg1 81 [(iv b1.1), (.slice va1x1 vn1x1 vc1x1), (iv b1.2.2.1), (.slice va1x3 vn1x3 vc1x3), (.map (some vn1x4))] from hb1) hl1x1 hl1x3 hl1x4 hO.fut b8) rfl (fun h => nomatch h) ?_
 rintro _ d0 ⟨a1, a2, a3, a8, rfl, a7, a0, b9⟩
 have hO := hO.perm (R := [] ++ ([])) (by simp)
 obtain ⟨hl0x2, hb0, hl1x1, hl1x3, hl1x4, hb1, hC⟩ := xt7 a7 hl0x2 hb0 hl1x1 hl1x3 hl1x4 hb1 hC
 have hO := Own.join hO a7 b9
 have hO := hO.perm (R := a8 ++ ([])) (by simp)
 refine x_p 9 (.slice a1 a2 a3) rfl (by kernel_rfl)  (fun _ => zE rfl) (fun h => nomatch h) (Zc (by kernel_rfl) ?_)
 clear hS
 refine zd (c_sr (ms rfl (za _ (zn Sl25 (ZV a0) rfl) (mi rfl (zb ?_)))))
 obtain ⟨o23, c0, hs⟩ := bind_some hs
 refine wp_block (YM (id := 0) (I := fun i_ xs_ s19 a a4 => ∃ a5 : Nat, i_ = (a5 : Int) ∧ List.drop a5 r13 = xs_ ∧ (∃ (σ : Nat → Value), a = fr 26 (ovl σ [(4, (.slice a1 a2 a3)), (16, (.slice a1 a2 a3)), (17, (iv (r13.length : Int))), (18, (iv (a5 : Int)))]) ∧ Chg [] w a4 ∧ Own (Nw w []) M a4 (a8 ++ []) ∧ (RT.os 43 (RT.on 3 ri)).val M a4 (.slice a1 a2 a3) r13 a8)) (J := fun s19 a a4 => ∃ (σ : Nat → Value), a = fr 26 (ovl σ [(4, (.slice a1 a2 a3))]) ∧ Chg [] w a4 ∧ Own (Nw w []) M a4 (a8 ++ []) ∧ (RT.os 43 (RT.on 3 ri)).val M a4 (.slice a1 a2 a3) r13 a8) (K := (xY M w)) ?_ ?_ r13 0 () o23 _ _ ?_ c0 ?_)
 ·rintro _ s19 a a4 ⟨a5, rfl, hd, σ, rfl, hC, hO, a0⟩
  have hlt := yb hd
  refine c_sr (za _ (zx rfl rfl) (zb (zd (zh (cb (decide_eq_false hlt)) (wp_exit ?_)))))
  exact ⟨rfl, _, fr_m 26 rfl, hC, hO, a0⟩
 ·rintro _ x22 xs_ s19 o23 a a4 ⟨a5, rfl, hd, σ, rfl, hC, hO, a0⟩ hs
  have hlt := ZJ hd
  have c1 := Zz hd
  refine c_sr (za _ (zx rfl rfl) (zb (zd (zg (cb (decide_eq_true hlt)) (wp_skip (zd (wp_block (c_sr ?_))))))))
  obtain ⟨c2, d1, d2, d3, c3, c4, c5⟩ := zR Sl25 Sz43 a0 c1
  have c6 := Zv (Frz.onn Frz.int) c4 c5
  refine za _ (c3 _ _ _ _ _ _ _ _ _ rfl rfl) ?_
  obtain ⟨d4, c7, hrow26, b5⟩ := ZG Ag43 Sz43 rfl rfl c6
  obtain ⟨a9, b2, b3, rfl, b5, c8⟩ := Ws b5
  refine za (.slice a9 b2 b3) (zo rfl (c7 _ (Chg.refl _ _))) (ax rfl (zb (c_sr (ms rfl (za (.bool (List.isEmpty x22)) (y_nil Try.underlying43 rfl rfl c8) (zb ?_))))))
  rcases zf hs with ⟨b4, hs⟩ | ⟨b4, hs⟩
  ·refine zg (cb b4) (c_sr (ax rfl (ab rfl (zb (wp_ret ?_)))))
   cases hs
   have hO := hO.drop.nil
   exact ⟨_, none, 0, 0, [], fr_m 26 rfl, hC, xD, hO.top⟩
  refine zh (cb b4) (wp_skip (ze (za _ (yad rfl rfl) (mi rfl (zb ?_)))))
  cases hs
  exact ⟨_, rfl, Zq hd, _, zD 26 ⟨rfl, rfl, rfl, congrArg (Value.int .i64) (Yh hlt (Int.natCast_nonneg _) (zaC a0)), trivial⟩, hC, hO, a0⟩
 ·skip
  exact ⟨0, rfl, rfl, _, fr_m 26 rfl, hC, hO, a0⟩
 cases o23 with
 | nx _ => exact True.intro
 | rt r_ =>
  have hs := zp hs
  intro c9 b6 hK
  cases hs
  exact hK
 | br s19 =>
  have hs := zq hs
  rintro c9 a4 ⟨σ, rfl, hC, hO, a0⟩
  refine c_sr (ms rfl (ax rfl (ab rfl (zb (wp_ret ?_)))))
  have a0 := on_weak a0
  cases hs
  exact ⟨_, a1, a2, a3, a8, fr_m 26 rfl, hC, a0, hO.top⟩

theorem Bd48 : zC Try.prog 48 := zI Try.func48 (by kernel_rfl) rfl

theorem Bd63 : zC Try.prog 63 := zI Try.func63 (by kernel_rfl) rfl

def WZ (M : Nat → Prop) (w0 : World) (r : (List (List Int)) × Bool) (a : Act) (w : World) : Prop :=
  ∃ (σ : Nat → Value) (ra0 : Option Addr) (rn0 rc0 : Nat) (rf0 : List Nat), a = fr 27 (ovl σ [(4, (.slice ra0 rn0 rc0)), (5, (.bool r.2))]) ∧ Chg [] w0 w ∧ (RT.os 43 (RT.os 3 (RT.int .i64))).val M w (.slice ra0 rn0 rc0) r.1 rf0 ∧ Own (Nw w0 []) (fun _ => True) w (rf0 ++ ([]))
def yG (a_ : Int × (List (Int × (List Int)))) (k : Int) : Option ((List (List Int)) × Bool) :=
  (yC (a_.1, a_.2) k).bind fun r4 =>
  (bif (!r4.2) then some ([], false) else (r4.1).bind fun p10 =>
  (yN (p10.2.1, p10.2.2) (p10.1.1.1, p10.1.1.2, p10.1.2.1, p10.1.2.2.1, p10.1.2.2.2)).bind fun r18 =>
  (bif (!r18.2) then some ([], false) else some (r18.1, true)))
set_option maxHeartbeats 4000000 in
theorem XB {M : Nat → Prop} {w : World} {pa0 : Option Addr} {pn0 pc0 : Nat} (a_ : Int × (List (Int × (List Int)))) (k : Int) (h0 : (RT.rs (RT.pr ri rl)).val M w (.slice pa0 pn0 pc0) a_.2 ([])) (hM : ∀ g, w.heap.size ≤ g → M g) {r : (List (List Int)) × Bool} (hs : yG a_ k = some r) :
    Gives Try.prog 33 [(.agg #[(iv a_.1), (.slice pa0 pn0 pc0)]), (iv k)] w (fun v w' => ∃ (ra0 : Option Addr) (rn0 rc0 : Nat) (rf0 : List Nat), v = (.tuple #[(.slice ra0 rn0 rc0), (.bool r.2)]) ∧ Chg [] w w' ∧ (RT.os 43 (RT.os 3 ri)).val M w' (.slice ra0 rn0 rc0) r.1 rf0 ∧ Own (Nw w []) (fun _ => True) w' (rf0 ++ ([]))) := by
 refine zr Try.func33 rfl Try.ntmps33 (Nat.le_of_ble_eq_true rfl) ?_
 have hO := Own.start (N := Nw w []) hM Nw.fut
 have hC := Chg.refl [] w
 unfold yG at hs
 refine wp_k (K := (WZ M w r)) (by rintro _ _ ⟨σ, ra0, rn0, rc0, rf0, rfl, hrest⟩; exact wE Try.results33 (zB rfl) (zB rfl) ⟨ra0, rn0, rc0, rf0, rfl, hrest⟩) (c_sr ?_)
 obtain ⟨a1, b0, f0, d2, c4, a3⟩ := zi w [(iv a_.1), (.slice pa0 pn0 pc0)] 35
 refine za (w' := a1) (pq b0 0) (ZW rfl (by rw [f0, d2]; kernel_rfl)) ?_
 obtain ⟨h0, hC⟩ := xt2 c4 h0 hC
 have hO := hO.new1 c4 d2 a3.lt
 refine ax rfl (ab rfl (zb (c_sr (za _ (ldw rfl Ag35 a3 Sz35) (mi rfl ?_)))))
 obtain ⟨r4, f1, hs⟩ := bind_some hs
 refine zy Bd48 rfl (VW (M := M) (a_.1, a_.2) k h0 hO.fut f1) ?_
 rintro _ a0 ⟨c1, a2, rfl, c2, c5, f2⟩
 have hO := hO.perm (R := [] ++ (([b0]) ++ ([]))) (by simp)
 have f3 := Own.pastL hO c2 f2
 have hK := (show Keeps w M (PastL M [] a1 a0 (a2 ++ ([]))) from Keeps.pastL hC.size (fun g hg => (hO.inN g hg).resolve_left (fun h => nomatch h)))
 obtain ⟨h0, a3, hC⟩ := xt3 c2 h0 a3 hC
 have hO := f3
 have h0 := h0.sub (M' := (PastL M [] a1 a0 (a2 ++ ([])))) (fun g hg => .inl hg.1)
 have hO := hO.perm (R := a2 ++ (([b0]) ++ ([]))) (by simp)
 refine za (.tuple #[c1, (.bool r4.2)]) (zt rfl) (za c1 (zO rfl (by kernel_rfl)) (za (.bool r4.2) (zO rfl (by kernel_rfl)) (za c1 (zE rfl) (ab rfl (zb (zd (c_sr (mb rfl (za _ (ZQ rfl) (zb ?_))))))))))
 rcases zf hs with ⟨c6, hs⟩ | ⟨c6, hs⟩
 ·refine zg (cb c6) (c_sr ?_)
  obtain ⟨d3, b1, f4, d4, c3, d5⟩ := zi a0 [] 43
  refine za (w' := d3) (.slice (some ⟨b1, 0, none⟩) 0 0) (zG rfl (by rw [f4, d4]; kernel_rfl)) ?_
  obtain ⟨a3, c5, hC⟩ := xt3 c3 a3 c5 hC
  have hO := hO.new1 c3 d4 d5.lt
  have c7 := os0 (r := (RT.os 3 ri)) (M := (PastL M [] a1 a0 (a2 ++ ([])))) d5
  refine ax rfl (ab rfl (zb (wp_ret ?_)))
  cases hs
  have hO := hO.fr1.drop.fr1.drop
  exact ⟨_, (some ⟨b1, 0, none⟩), 0, 0, ([b1]), fr_m 27 rfl, hC, (c7.free (Free.os (Free.os Free.int))), hO.top⟩
 refine zh (cb c6) (wp_skip (c_sr (za c1 (zt rfl) ?_)))
 obtain ⟨p10, f5, hs⟩ := bind_some hs
 obtain ⟨a6, rfl, f6⟩ := op_get c5 f5
 obtain ⟨h9, i0, f7, a8, f8⟩ := Ub f6
 obtain ⟨i1, i2, i3, i4, rfl, rfl, f9, g0⟩ := f8
 obtain ⟨a4, rfl, g1⟩ := po_rel f9
 obtain ⟨i5, i6, rfl, a9, g2⟩ := Ub g1
 obtain ⟨i7, i9, j0, j1, rfl, rfl, g3, g4⟩ := g2
 obtain ⟨j2, j3, j4, j5, rfl, rfl, g5, g6⟩ := g3
 obtain ⟨rfl, rfl⟩ := g5
 obtain ⟨d6, d7, d8, rfl, rfl, c8⟩ := Uh g6
 obtain ⟨j6, j7, j8, j9, rfl, rfl, g7, g8⟩ := g4
 obtain ⟨rfl, rfl⟩ := g7
 obtain ⟨k0, k1, b2, b3, rfl, rfl, g9, h1⟩ := g8
 obtain ⟨d9, e0, e1, rfl, b8⟩ := os_rel' g9
 obtain ⟨e2, rfl, b9⟩ := mo_rel' h1
 have a9 : BoxV a0 a4 81 [(iv p10.1.1.1), (.slice d6 d7 d8), (iv p10.1.2.1), (.slice d9 e0 e1), (.map (some e2))] := a9
 obtain ⟨k2, k3, k4, k5, rfl, rfl, h2, h3⟩ := g0
 obtain ⟨rfl, rfl⟩ := h2
 obtain ⟨e3, e4, e5, rfl, rfl, c9⟩ := Uh h3
 have a8 : BoxV a0 a6 108 [(pq a4 0), (iv p10.2.1), (.slice e3 e4 e5)] := a8
 have hO := ((((hO.perm (R := ([a6]) ++ (([a4]) ++ (b2 ++ (b3 ++ (([b0]) ++ ([])))))) (by rw [f7]; simp)).fr3).fr3).fr3).fr3
 obtain ⟨r18, h4, hs⟩ := bind_some hs
 refine zy Bd63 rfl (Wc (M := (Less (Less (Less (Less (PastL M [] a1 a0 (a2 ++ ([]))) ([a6])) ([a4])) b2) b3)) (p10.2.1, p10.2.2) (p10.1.1.1, p10.1.1.2, p10.1.2.1, p10.1.2.2.1, p10.1.2.2.2) (show RBox (Less (Less (Less (Less (PastL M [] a1 a0 (a2 ++ ([]))) ([a6])) ([a4])) b2) b3) _ a6 108 [(pq a4 0), (iv p10.2.1), (.slice e3 e4 e5)] from ⟨a8, fun h => by simp [Less] at h⟩) ((((c9.sub Less.sub).sub Less.sub).sub Less.sub).sub Less.sub) (show RBox (Less (Less (Less (Less (PastL M [] a1 a0 (a2 ++ ([]))) ([a6])) ([a4])) b2) b3) _ a4 81 [(iv p10.1.1.1), (.slice d6 d7 d8), (iv p10.1.2.1), (.slice d9 e0 e1), (.map (some e2))] from ⟨a9, fun h => by simp [Less] at h⟩) ((((c8.sub Less.sub).sub Less.sub).sub Less.sub).sub Less.sub) ((((Frz.os (Frz.rs Frz.int))).val ((b8.sub Less.sub).sub Less.sub) Less.sub Less.not).sub Less.sub) ((Frz.mo).val (((b9.sub Less.sub).sub Less.sub).sub Less.sub) Less.sub Less.not) (((hO.less).less).less).less.fut h4) ?_
 rintro _ h5 ⟨b4, b5, b6, e6, rfl, a5, c0, h6⟩
 have hO := hO.fr3.fr3.fr3.fr3.perm (R := [] ++ (([a6]) ++ (([a4]) ++ (b2 ++ (b3 ++ (([b0]) ++ ([]))))))) (by simp)
 obtain ⟨a3, c8, b8, b9, a9, c9, a8, hC⟩ := xt8 a5 a3 c8 b8 b9 a9 c9 a8 hC
 have hO := Own.join hO a5 h6
 have hO := hO.perm (R := e6 ++ (([a6]) ++ (([a4]) ++ (b2 ++ (b3 ++ (([b0]) ++ ([]))))))) (by simp)
 have c0 := c0.free (M' := (PastL M [] a1 a0 (a2 ++ ([])))) (Free.os (Free.os Free.int))
 refine za (.tuple #[(.slice b4 b5 b6), (.bool r18.2)]) (zt rfl) (za (.slice b4 b5 b6) (zO rfl (by kernel_rfl)) (za (.bool r18.2) (zO rfl (by kernel_rfl)) (ax rfl (ab rfl (zb (zd (c_sr (mb rfl (za _ (ZQ rfl) (zb ?_))))))))))
 rcases zf hs with ⟨d0, hs⟩ | ⟨d0, hs⟩
 ·refine zg (cb d0) (c_sr ?_)
  obtain ⟨e7, b7, h7, e8, a7, e9⟩ := zi h5 [] 43
  refine za (w' := e7) (.slice (some ⟨b7, 0, none⟩) 0 0) (zG rfl (by rw [h7, e8]; kernel_rfl)) ?_
  obtain ⟨a3, b8, b9, a9, a8, c0, hC⟩ := xt7 a7 a3 b8 b9 a9 a8 c0 hC
  have hO := hO.new1 a7 e8 e9.lt
  have d1 := os0 (r := (RT.os 3 ri)) (M := (PastL M [] a1 a0 (a2 ++ ([])))) e9
  refine ax rfl (ab rfl (zb (wp_ret ?_)))
  cases hs
  have hO := hO.fr1.drop.fr1.drop.fr1.drop.fr1.drop.fr1.drop.fr1.drop
  exact ⟨_, (some ⟨b7, 0, none⟩), 0, 0, ([b7]), fr_m 27 rfl, hC, (d1.free (Free.os (Free.os Free.int))), hO.top⟩
 refine zh (cb d0) (wp_skip (c_sr (ms rfl (ax rfl (ab rfl (zb (wp_ret ?_)))))))
 cases hs
 have hO := hO.fr1.drop.fr1.drop.fr1.drop.fr1.drop.fr1.drop
 exact ⟨_, b4, b5, b6, e6, fr_m 27 rfl, hC, (c0.free (Free.os (Free.os Free.int))), hO.top⟩

def wV (M : Nat → Prop) (w0 : World) (r : Bool) (a : Act) (w : World) : Prop :=
  ∃ (σ : Nat → Value) , a = fr 26 (ovl σ [(4, (.bool r))]) ∧ Chg [] w0 w
def yE (a_ : List Int) (b : List Int) : Option (Bool) :=
  (bif ((a_.length : Int) != (b.length : Int)) then some false else (forC (S := Unit) (R := Bool) (fun k12 s10 =>
  (idx a_ k12).bind fun x17 =>
  (idx b k12).bind fun x19 =>
  (bif (x17 != x19) then some (.rt false) else some (.nx ()))) 0 (a_.length : Int) ()).bind fun o14 => after o14 (fun r_ => some r_) (fun s10 =>
  some true))
set_option maxHeartbeats 4000000 in
theorem wR {M : Nat → Prop} {w : World} {pa0 : Option Addr} {pn0 pc0 : Nat} {pa1 : Option Addr} {pn1 pc1 : Nat} (a_ : List Int) (b : List Int) (h0 : rl.val M w (.slice pa0 pn0 pc0) a_ ([])) (h1 : rl.val M w (.slice pa1 pn1 pc1) b ([])) (hM : ∀ g, w.heap.size ≤ g → M g) {r : Bool} (hs : yE a_ b = some r) :
    Gives Try.prog 22 [(.slice pa0 pn0 pc0), (.slice pa1 pn1 pc1)] w (fun v w' => v = (.bool r) ∧ Chg [] w w') := by
 refine zr Try.func22 rfl Try.ntmps22 (Nat.le_of_ble_eq_true rfl) ?_
 have hO := Own.start (N := Nw w []) hM Nw.fut
 have hC := Chg.refl [] w
 unfold yE at hs
 refine wp_k (K := (wV M w r)) (by rintro _ _ ⟨σ, rfl, hrest⟩; exact Zh Try.results22 (zB rfl) ⟨rfl, hrest⟩) (c_sr (ab rfl (zb (zd (c_sr (ms rfl (za _ (zn Sl43 (zu h0) rfl) (ms rfl (za _ (zn Sl43 (zu h1) rfl) (za (.bool ((a_.length : Int) != (b.length : Int))) (xk rfl rfl) (zb ?_)))))))))))
 rcases zf hs with ⟨a2, hs⟩ | ⟨a2, hs⟩
 ·refine zg (cb a2) (c_sr (ab rfl (zb (wp_ret ?_))))
  cases hs
  exact ⟨_, fr_m 26 rfl, hC⟩
 refine zh (cb a2) (wp_skip (zd (c_sr (ai rfl (zb ?_)))))
 obtain ⟨o14, a5, hs⟩ := bind_some hs
 refine wp_block (zW (id := 0) (a_.length : Int) (I := fun k12 s10 a a0 => ∃ (σ : Nat → Value), a = fr 26 (ovl σ [(0, (.slice pa0 pn0 pc0)), (1, (.slice pa1 pn1 pc1)), (5, (iv k12))]) ∧ Chg [] w a0 ∧ Own (Nw w []) M a0 ([]) ∧ rl.val M a0 (.slice pa0 pn0 pc0) a_ ([]) ∧ rl.val M a0 (.slice pa1 pn1 pc1) b ([])) (J := fun s10 a a0 => ∃ (σ : Nat → Value), a = fr 26 (ovl σ []) ∧ Chg [] w a0 ∧ Own (Nw w []) M a0 ([]) ∧ rl.val M a0 (.slice pa0 pn0 pc0) a_ ([]) ∧ rl.val M a0 (.slice pa1 pn1 pc1) b ([])) (K := (wV M w)) ?_ ?_ 0 () o14 _ _ ?_ a5 ?_)
 ·rintro k12 s10 a a0 ⟨σ, rfl, hC, hO, h0, h1⟩ hlt
  refine zd (c_sr (mi rfl (ms rfl (za _ (zn Sl43 (zu h0) rfl) (za _ (zx rfl rfl) (zb (zh (cb (decide_eq_false hlt)) (wp_exit ?_))))))))
  exact ⟨rfl, _, zD 26 trivial, hC, hO, h0, h1⟩
 ·rintro k12 s10 o14 a a0 ⟨σ, rfl, hC, hO, h0, h1⟩ hlt hw hs
  refine zd (c_sr (mi rfl (ms rfl (za _ (zn Sl43 (zu h0) rfl) (za _ (zx rfl rfl) (zb (zg (cb (decide_eq_true hlt)) (wp_skip (zd (wp_block (zd (Ze [] Mx rfl ?_))))))))))))
  have a1 := Chg.drew a0
  generalize World.drew a0 = a6 at a1 ⊢
  obtain ⟨h0, h1, hC, hO⟩ := xt4 a1 h0 h1 hC hO
  have hS := Chg.refl [] a6
  refine xms 0 rfl rfl hS (xmi 1 rfl rfl hS ?_)
  obtain ⟨x17, a7, hs⟩ := bind_some hs
  obtain ⟨a8, a9, b0, b1⟩ := zN Sl43 Sz3 h0 a7
  refine xq 2 _ rfl (b0 _ _ _ _ _ _ _ _ _ rfl rfl) hS (x_l 3 (iv x17) rfl (by kernel_rfl)  (fun w' hw' => zo rfl ((zz Ag3 Sz3 b1) w' hw')) hS (xms 4 rfl rfl hS (xmi 5 rfl rfl hS ?_)))
  obtain ⟨x19, b2, hs⟩ := bind_some hs
  obtain ⟨b3, b4, b5, b6⟩ := zN Sl43 Sz3 h1 b2
  refine xq 6 _ rfl (b5 _ _ _ _ _ _ _ _ _ rfl rfl) hS (x_l 7 (iv x19) rfl (by kernel_rfl)  (fun w' hw' => zo rfl ((zz Ag3 Sz3 b6) w' hw')) hS (xq 8 (.bool (x17 != x19)) rfl (xk rfl rfl) hS (Zc (by kernel_rfl) ?_)))
  clear hS
  rcases zf hs with ⟨a3, hs⟩ | ⟨a3, hs⟩
  ·refine zg (cb a3) (c_sr (ab rfl (zb (wp_ret ?_))))
   cases hs
   exact ⟨_, fr_m 26 rfl, hC⟩
  refine zh (cb a3) (wp_skip (ze (mi rfl (za _ (yad rfl rfl) (ai rfl (zb ?_))))))
  cases hs
  exact ⟨_, zD 26 ⟨rfl, rfl, congrArg (Value.int .i64) hw, trivial⟩, hC, hO, h0, h1⟩
 ·skip
  exact ⟨_, fr_m 26 rfl, hC, hO, h0, h1⟩
 cases o14 with
 | nx _ => exact True.intro
 | rt r_ =>
  have hs := zp hs
  intro b7 a4 hK
  cases hs
  exact hK
 | br s10 =>
  have hs := zq hs
  rintro b7 a0 ⟨σ, rfl, hC, hO, h0, h1⟩
  refine c_sr (ab rfl (zb (wp_ret ?_)))
  cases hs
  exact ⟨_, fr_m 26 rfl, hC⟩

theorem Bd22 : zC Try.prog 22 := zI Try.func22 (by kernel_rfl) rfl

def wi (M : Nat → Prop) (w0 : World) (r : Bool) (a : Act) (w : World) : Prop :=
  ∃ (σ : Nat → Value) , a = fr 27 (ovl σ [(4, (.bool r))]) ∧ Chg [] w0 w
def ym (a_ : List (List Int)) (b : List (List Int)) : Option (Bool) :=
  (bif ((a_.length : Int) != (b.length : Int)) then some false else (forC (S := Unit) (R := Bool) (fun k18 s16 =>
  (idx a_ k18).bind fun x23 =>
  (idx b k18).bind fun x27 =>
  (yE x23 x27).bind fun r32 =>
  (bif (!r32) then some (.rt false) else some (.nx ()))) 0 (a_.length : Int) ()).bind fun o20 => after o20 (fun r_ => some r_) (fun s16 =>
  some true))
set_option maxHeartbeats 4000000 in
theorem xV {M : Nat → Prop} {w : World} {pa0 : Option Addr} {pn0 pc0 : Nat} {pa1 : Option Addr} {pn1 pc1 : Nat} (a_ : List (List Int)) (b : List (List Int)) (h0 : (RT.rs rl).val M w (.slice pa0 pn0 pc0) a_ ([])) (h1 : (RT.rs rl).val M w (.slice pa1 pn1 pc1) b ([])) (hM : ∀ g, w.heap.size ≤ g → M g) {r : Bool} (hs : ym a_ b = some r) :
    Gives Try.prog 29 [(.slice pa0 pn0 pc0), (.slice pa1 pn1 pc1)] w (fun v w' => v = (.bool r) ∧ Chg [] w w') := by
 refine zr Try.func29 rfl Try.ntmps29 (Nat.le_of_ble_eq_true rfl) ?_
 have hO := Own.start (N := Nw w []) hM Nw.fut
 have hC := Chg.refl [] w
 unfold ym at hs
 refine wp_k (K := (wi M w r)) (by rintro _ _ ⟨σ, rfl, hrest⟩; exact Zh Try.results29 (zB rfl) ⟨rfl, hrest⟩) (c_sr (ab rfl (zb (zd (c_sr (ms rfl (za _ (zn Sl25 (zu h0) rfl) (ms rfl (za _ (zn Sl25 (zu h1) rfl) (za (.bool ((a_.length : Int) != (b.length : Int))) (xk rfl rfl) (zb ?_)))))))))))
 rcases zf hs with ⟨a5, hs⟩ | ⟨a5, hs⟩
 ·refine zg (cb a5) (c_sr (ab rfl (zb (wp_ret ?_))))
  cases hs
  exact ⟨_, fr_m 27 rfl, hC⟩
 refine zh (cb a5) (wp_skip (zd (c_sr (ai rfl (zb ?_)))))
 obtain ⟨o20, b0, hs⟩ := bind_some hs
 refine wp_block (zW (id := 0) (a_.length : Int) (I := fun k18 s16 a a0 => ∃ (σ : Nat → Value), a = fr 27 (ovl σ [(0, (.slice pa0 pn0 pc0)), (1, (.slice pa1 pn1 pc1)), (5, (iv k18))]) ∧ Chg [] w a0 ∧ Own (Nw w []) M a0 ([]) ∧ (RT.rs rl).val M a0 (.slice pa0 pn0 pc0) a_ ([]) ∧ (RT.rs rl).val M a0 (.slice pa1 pn1 pc1) b ([])) (J := fun s16 a a0 => ∃ (σ : Nat → Value), a = fr 27 (ovl σ []) ∧ Chg [] w a0 ∧ Own (Nw w []) M a0 ([]) ∧ (RT.rs rl).val M a0 (.slice pa0 pn0 pc0) a_ ([]) ∧ (RT.rs rl).val M a0 (.slice pa1 pn1 pc1) b ([])) (K := (wi M w)) ?_ ?_ 0 () o20 _ _ ?_ b0 ?_)
 ·rintro k18 s16 a a0 ⟨σ, rfl, hC, hO, h0, h1⟩ hlt
  refine zd (c_sr (mi rfl (ms rfl (za _ (zn Sl25 (zu h0) rfl) (za _ (zx rfl rfl) (zb (zh (cb (decide_eq_false hlt)) (wp_exit ?_))))))))
  exact ⟨rfl, _, zD 27 trivial, hC, hO, h0, h1⟩
 ·rintro k18 s16 o20 a a0 ⟨σ, rfl, hC, hO, h0, h1⟩ hlt hw hs
  refine zd (c_sr (mi rfl (ms rfl (za _ (zn Sl25 (zu h0) rfl) (za _ (zx rfl rfl) (zb (zg (cb (decide_eq_true hlt)) (wp_skip (zd (wp_block (zd (Ze [] Mx rfl ?_))))))))))))
  have a2 := Chg.drew a0
  generalize World.drew a0 = b1 at a2 ⊢
  obtain ⟨h0, h1, hC, hO⟩ := xt4 a2 h0 h1 hC hO
  have hS := Chg.refl [] b1
  refine xms 0 rfl rfl hS (xmi 1 rfl rfl hS ?_)
  obtain ⟨x23, b2, hs⟩ := bind_some hs
  obtain ⟨b3, b4, b5, a6⟩ := zN Sl25 Sz43 h0 b2
  refine xq 2 _ rfl (b5 _ _ _ _ _ _ _ _ _ rfl rfl) hS ?_
  obtain ⟨d0, b6, a3⟩ := Zj Ag43 Sz43 (fun _ => rfl) a6
  obtain ⟨b7, b8, b9, rfl⟩ := yd a3
  refine x_l 3 (.slice b7 b8 b9) rfl (by kernel_rfl)  (fun w' hw' => zo rfl (b6 w' hw')) hS (xms 4 rfl rfl hS (xmi 5 rfl rfl hS ?_))
  obtain ⟨x27, c0, hs⟩ := bind_some hs
  obtain ⟨c1, c2, c3, a7⟩ := zN Sl25 Sz43 h1 c0
  refine xq 6 _ rfl (c3 _ _ _ _ _ _ _ _ _ rfl rfl) hS ?_
  obtain ⟨d1, c4, a4⟩ := Zj Ag43 Sz43 (fun _ => rfl) a7
  obtain ⟨c5, c6, c7, rfl⟩ := yd a4
  refine x_l 7 (.slice c5 c6 c7) rfl (by kernel_rfl)  (fun w' hw' => zo rfl (c4 w' hw')) hS (zP (i := 8) (by kernel_rfl) ?_)
  obtain ⟨r32, c8, hs⟩ := bind_some hs
  refine zZ (b := false) rfl  Bd22 rfl (wR (M := M) x23 x27 a3 a4 hO.fut c8) rfl (by rintro _ _ _ ⟨rfl, a1⟩; exact hS.ext a1) ?_
  rintro _ d2 ⟨rfl, a1⟩
  obtain ⟨h0, h1, a3, a4, a6, a7, hC, hO⟩ := xt8 a1 h0 h1 a3 a4 a6 a7 hC hO
  have hS := hS.ext a1
  refine xq 9 _ rfl (ZQ rfl) hS (Zc (by kernel_rfl) ?_)
  clear hS
  rcases zf hs with ⟨a8, hs⟩ | ⟨a8, hs⟩
  ·refine zg (cb a8) (c_sr (ab rfl (zb (wp_ret ?_))))
   cases hs
   exact ⟨_, fr_m 27 rfl, hC⟩
  refine zh (cb a8) (wp_skip (ze (mi rfl (za _ (yad rfl rfl) (ai rfl (zb ?_))))))
  cases hs
  exact ⟨_, zD 27 ⟨rfl, rfl, congrArg (Value.int .i64) hw, trivial⟩, hC, hO, h0, h1⟩
 ·skip
  exact ⟨_, fr_m 27 rfl, hC, hO, h0, h1⟩
 cases o20 with
 | nx _ => exact True.intro
 | rt r_ =>
  have hs := zp hs
  intro c9 a9 hK
  cases hs
  exact hK
 | br s16 =>
  have hs := zq hs
  rintro c9 a0 ⟨σ, rfl, hC, hO, h0, h1⟩
  refine c_sr (ab rfl (zb (wp_ret ?_)))
  cases hs
  exact ⟨_, fr_m 27 rfl, hC⟩

def zah (M : Nat → Prop) (w0 : World) (r : Bool) (a : Act) (w : World) : Prop :=
  ∃ (σ : Nat → Value) , a = fr 16 (ovl σ [(4, (.bool r))]) ∧ Chg [] w0 w
def YV (a_ : Int × (List Int)) (b : Int × (List Int)) : Option (Bool) :=
  (bif (a_.1 != b.1) then some false else (yE a_.2 b.2).bind fun r7 =>
  (bif (!r7) then some false else some true))
set_option maxHeartbeats 4000000 in
theorem Ut {M : Nat → Prop} {w : World} {pa0 : Option Addr} {pn0 pc0 : Nat} {pa1 : Option Addr} {pn1 pc1 : Nat} (a_ : Int × (List Int)) (b : Int × (List Int)) (h0 : rl.val M w (.slice pa0 pn0 pc0) a_.2 ([])) (h1 : rl.val M w (.slice pa1 pn1 pc1) b.2 ([])) (hM : ∀ g, w.heap.size ≤ g → M g) {r : Bool} (hs : YV a_ b = some r) :
    Gives Try.prog 79 [(.agg #[(iv a_.1), (.slice pa0 pn0 pc0)]), (.agg #[(iv b.1), (.slice pa1 pn1 pc1)])] w (fun v w' => v = (.bool r) ∧ Chg [] w w') := by
 refine zr Try.func79 rfl Try.ntmps79 (Nat.le_of_ble_eq_true rfl) ?_
 have hO := Own.start (N := Nw w []) hM Nw.fut
 have hC := Chg.refl [] w
 unfold YV at hs
 refine wp_k (K := (zah M w r)) (by rintro _ _ ⟨σ, rfl, hrest⟩; exact Zh Try.results79 (zB rfl) ⟨rfl, hrest⟩) (c_sr ?_)
 obtain ⟨a9, a5, b2, b0, a4, a0⟩ := zi w [(iv a_.1), (.slice pa0 pn0 pc0)] 89
 refine za (w' := a9) (pq a5 0) (ZW rfl (by rw [b2, b0]; kernel_rfl)) ?_
 obtain ⟨h0, h1, hC⟩ := xt3 a4 h0 h1 hC
 have hO := hO.new1 a4 b0 a0.lt
 obtain ⟨b3, a6, b4, b1, a2, a3⟩ := zi a9 [(iv b.1), (.slice pa1 pn1 pc1)] 89
 refine za (w' := b3) (pq a6 0) (ZW rfl (by rw [b4, b1]; kernel_rfl)) ?_
 obtain ⟨h0, h1, a0, hC⟩ := xt4 a2 h0 h1 a0 hC
 have hO := hO.new1 a2 b1 a3.lt
 refine ab rfl (zb (zd (c_sr (za (pq a5 0) (zk rfl yM) (za _ (ld rfl Ag3 Sz3 a0 rfl) (za (pq a6 0) (zk rfl yM) (za _ (ld rfl Ag3 Sz3 a3 rfl) (za (.bool (a_.1 != b.1)) (xk rfl rfl) (zb ?_)))))))))
 rcases zf hs with ⟨a7, hs⟩ | ⟨a7, hs⟩
 ·refine zg (cb a7) (c_sr (ab rfl (zb (wp_ret ?_))))
  cases hs
  exact ⟨_, fr_m 16 rfl, hC⟩
 refine zh (cb a7) (wp_skip (zd (c_sr (za (pq a5 1) (zk rfl xE) (za _ (ld rfl Ag43 Sz43 a0 rfl) (za (pq a6 1) (zk rfl xE) (za _ (ld rfl Ag43 Sz43 a3 rfl) ?_)))))))
 obtain ⟨r7, b5, hs⟩ := bind_some hs
 refine zy Bd22 rfl (wR (M := M) a_.2 b.2 h0 h1 hO.fut b5) ?_
 rintro _ b7 ⟨rfl, a1⟩
 obtain ⟨h0, h1, a0, a3, hC, hO⟩ := xt6 a1 h0 h1 a0 a3 hC hO
 refine za _ (ZQ rfl) (zb ?_)
 have hO := hO.drop.drop
 rcases zf hs with ⟨a8, hs⟩ | ⟨a8, hs⟩
 ·refine zg (cb a8) (c_sr (ab rfl (zb (wp_ret ?_))))
  cases hs
  exact ⟨_, fr_m 16 rfl, hC⟩
 refine zh (cb a8) (wp_skip (c_sr (ab rfl (zb (wp_ret ?_)))))
 cases hs
 exact ⟨_, fr_m 16 rfl, hC⟩

theorem Bd79 : zC Try.prog 79 := zI Try.func79 (by kernel_rfl) rfl

def WH (M : Nat → Prop) (w0 : World) (r : Bool) (a : Act) (w : World) : Prop :=
  ∃ (σ : Nat → Value) , a = fr 27 (ovl σ [(4, (.bool r))]) ∧ Chg [] w0 w
def xP (a_ : List (Int × (List Int))) (b : List (Int × (List Int))) : Option (Bool) :=
  (bif ((a_.length : Int) != (b.length : Int)) then some false else (forC (S := Unit) (R := Bool) (fun k18 s16 =>
  (idx a_ k18).bind fun x23 =>
  (idx b k18).bind fun x27 =>
  (YV (x23.1, x23.2) (x27.1, x27.2)).bind fun r32 =>
  (bif (!r32) then some (.rt false) else some (.nx ()))) 0 (a_.length : Int) ()).bind fun o20 => after o20 (fun r_ => some r_) (fun s16 =>
  some true))
set_option maxHeartbeats 4000000 in
theorem Uc {M : Nat → Prop} {w : World} {pa0 : Option Addr} {pn0 pc0 : Nat} {pa1 : Option Addr} {pn1 pc1 : Nat} (a_ : List (Int × (List Int))) (b : List (Int × (List Int))) (h0 : (RT.rs (RT.pr ri rl)).val M w (.slice pa0 pn0 pc0) a_ ([])) (h1 : (RT.rs (RT.pr ri rl)).val M w (.slice pa1 pn1 pc1) b ([])) (hM : ∀ g, w.heap.size ≤ g → M g) {r : Bool} (hs : xP a_ b = some r) :
    Gives Try.prog 42 [(.slice pa0 pn0 pc0), (.slice pa1 pn1 pc1)] w (fun v w' => v = (.bool r) ∧ Chg [] w w') := by
 refine zr Try.func42 rfl Try.ntmps42 (Nat.le_of_ble_eq_true rfl) ?_
 have hO := Own.start (N := Nw w []) hM Nw.fut
 have hC := Chg.refl [] w
 unfold xP at hs
 refine wp_k (K := (WH M w r)) (by rintro _ _ ⟨σ, rfl, hrest⟩; exact Zh Try.results42 (zB rfl) ⟨rfl, hrest⟩) (c_sr (ab rfl (zb (zd (c_sr (ms rfl (za _ (zn Sl33 (zu h0) rfl) (ms rfl (za _ (zn Sl33 (zu h1) rfl) (za (.bool ((a_.length : Int) != (b.length : Int))) (xk rfl rfl) (zb ?_)))))))))))
 rcases zf hs with ⟨a3, hs⟩ | ⟨a3, hs⟩
 ·refine zg (cb a3) (c_sr (ab rfl (zb (wp_ret ?_))))
  cases hs
  exact ⟨_, fr_m 27 rfl, hC⟩
 refine zh (cb a3) (wp_skip (zd (c_sr (ai rfl (zb ?_)))))
 obtain ⟨o20, b0, hs⟩ := bind_some hs
 refine wp_block (zW (id := 0) (a_.length : Int) (I := fun k18 s16 a a0 => ∃ (σ : Nat → Value), a = fr 27 (ovl σ [(0, (.slice pa0 pn0 pc0)), (1, (.slice pa1 pn1 pc1)), (5, (iv k18))]) ∧ Chg [] w a0 ∧ Own (Nw w []) M a0 ([]) ∧ (RT.rs (RT.pr ri rl)).val M a0 (.slice pa0 pn0 pc0) a_ ([]) ∧ (RT.rs (RT.pr ri rl)).val M a0 (.slice pa1 pn1 pc1) b ([])) (J := fun s16 a a0 => ∃ (σ : Nat → Value), a = fr 27 (ovl σ []) ∧ Chg [] w a0 ∧ Own (Nw w []) M a0 ([]) ∧ (RT.rs (RT.pr ri rl)).val M a0 (.slice pa0 pn0 pc0) a_ ([]) ∧ (RT.rs (RT.pr ri rl)).val M a0 (.slice pa1 pn1 pc1) b ([])) (K := (WH M w)) ?_ ?_ 0 () o20 _ _ ?_ b0 ?_)
 ·rintro k18 s16 a a0 ⟨σ, rfl, hC, hO, h0, h1⟩ hlt
  refine zd (c_sr (mi rfl (ms rfl (za _ (zn Sl33 (zu h0) rfl) (za _ (zx rfl rfl) (zb (zh (cb (decide_eq_false hlt)) (wp_exit ?_))))))))
  exact ⟨rfl, _, zD 27 trivial, hC, hO, h0, h1⟩
 ·rintro k18 s16 o20 a a0 ⟨σ, rfl, hC, hO, h0, h1⟩ hlt hw hs
  refine zd (c_sr (mi rfl (ms rfl (za _ (zn Sl33 (zu h0) rfl) (za _ (zx rfl rfl) (zb (zg (cb (decide_eq_true hlt)) (wp_skip (zd (wp_block (zd (Ze [] Mx rfl ?_))))))))))))
  have a2 := Chg.drew a0
  generalize World.drew a0 = b1 at a2 ⊢
  obtain ⟨h0, h1, hC, hO⟩ := xt4 a2 h0 h1 hC hO
  have hS := Chg.refl [] b1
  refine xms 0 rfl rfl hS (xmi 1 rfl rfl hS ?_)
  obtain ⟨x23, b2, hs⟩ := bind_some hs
  obtain ⟨b3, b4, b5, a4⟩ := zN Sl33 Sz89 h0 b2
  refine xq 2 _ rfl (b5 _ _ _ _ _ _ _ _ _ rfl rfl) hS ?_
  obtain ⟨d8, b6, b7⟩ := Zj Ag89 Sz89 (by intro h; cases h) a4
  obtain ⟨d9, rfl, b8⟩ := b7
  obtain ⟨e0, e1, rfl, b9, c0⟩ := Yz b8
  obtain rfl := YN b9
  obtain ⟨c1, c2, c3, rfl, a5⟩ := xp c0
  refine x_l 3 (.agg #[(iv x23.1), (.slice c1 c2 c3)]) rfl (by kernel_rfl)  (fun w' hw' => zo rfl (b6 w' hw')) hS (xms 4 rfl rfl hS (xmi 5 rfl rfl hS ?_))
  obtain ⟨x27, c4, hs⟩ := bind_some hs
  obtain ⟨c5, c6, c7, a6⟩ := zN Sl33 Sz89 h1 c4
  refine xq 6 _ rfl (c7 _ _ _ _ _ _ _ _ _ rfl rfl) hS ?_
  obtain ⟨e2, c8, c9⟩ := Zj Ag89 Sz89 (by intro h; cases h) a6
  obtain ⟨e3, rfl, d0⟩ := c9
  obtain ⟨e4, e5, rfl, d1, d2⟩ := Yz d0
  obtain rfl := YN d1
  obtain ⟨d3, d4, d5, rfl, a7⟩ := xp d2
  refine x_l 7 (.agg #[(iv x27.1), (.slice d3 d4 d5)]) rfl (by kernel_rfl)  (fun w' hw' => zo rfl (c8 w' hw')) hS (zP (i := 8) (by kernel_rfl) ?_)
  obtain ⟨r32, d6, hs⟩ := bind_some hs
  refine zZ (b := false) rfl  Bd79 rfl (Ut (M := M) (x23.1, x23.2) (x27.1, x27.2) a5 a7 hO.fut d6) rfl (by rintro _ _ _ ⟨rfl, a1⟩; exact hS.ext a1) ?_
  rintro _ e6 ⟨rfl, a1⟩
  obtain ⟨h0, h1, a5, a7, a4, a6, hC, hO⟩ := xt8 a1 h0 h1 a5 a7 a4 a6 hC hO
  have hS := hS.ext a1
  refine xq 9 _ rfl (ZQ rfl) hS (Zc (by kernel_rfl) ?_)
  clear hS
  rcases zf hs with ⟨a8, hs⟩ | ⟨a8, hs⟩
  ·refine zg (cb a8) (c_sr (ab rfl (zb (wp_ret ?_))))
   cases hs
   exact ⟨_, fr_m 27 rfl, hC⟩
  refine zh (cb a8) (wp_skip (ze (mi rfl (za _ (yad rfl rfl) (ai rfl (zb ?_))))))
  cases hs
  exact ⟨_, zD 27 ⟨rfl, rfl, congrArg (Value.int .i64) hw, trivial⟩, hC, hO, h0, h1⟩
 ·skip
  exact ⟨_, fr_m 27 rfl, hC, hO, h0, h1⟩
 cases o20 with
 | nx _ => exact True.intro
 | rt r_ =>
  have hs := zp hs
  intro d7 a9 hK
  cases hs
  exact hK
 | br s16 =>
  have hs := zq hs
  rintro d7 a0 ⟨σ, rfl, hC, hO, h0, h1⟩
  refine c_sr (ab rfl (zb (wp_ret ?_)))
  cases hs
  exact ⟨_, fr_m 27 rfl, hC⟩

theorem Bd42 : zC Try.prog 42 := zI Try.func42 (by kernel_rfl) rfl

def vi (M : Nat → Prop) (w0 : World) (r : Bool) (a : Act) (w : World) : Prop :=
  ∃ (σ : Nat → Value) , a = fr 16 (ovl σ [(4, (.bool r))]) ∧ Chg [] w0 w
def yF (a_ : Int × (List (Int × (List Int)))) (b : Int × (List (Int × (List Int)))) : Option (Bool) :=
  (bif (a_.1 != b.1) then some false else (xP a_.2 b.2).bind fun r7 =>
  (bif (!r7) then some false else some true))
set_option maxHeartbeats 4000000 in
theorem WY {M : Nat → Prop} {w : World} {pa0 : Option Addr} {pn0 pc0 : Nat} {pa1 : Option Addr} {pn1 pc1 : Nat} (a_ : Int × (List (Int × (List Int)))) (b : Int × (List (Int × (List Int)))) (h0 : (RT.rs (RT.pr ri rl)).val M w (.slice pa0 pn0 pc0) a_.2 ([])) (h1 : (RT.rs (RT.pr ri rl)).val M w (.slice pa1 pn1 pc1) b.2 ([])) (hM : ∀ g, w.heap.size ≤ g → M g) {r : Bool} (hs : yF a_ b = some r) :
    Gives Try.prog 15 [(.agg #[(iv a_.1), (.slice pa0 pn0 pc0)]), (.agg #[(iv b.1), (.slice pa1 pn1 pc1)])] w (fun v w' => v = (.bool r) ∧ Chg [] w w') := by
 refine zr Try.func15 rfl Try.ntmps15 (Nat.le_of_ble_eq_true rfl) ?_
 have hO := Own.start (N := Nw w []) hM Nw.fut
 have hC := Chg.refl [] w
 unfold yF at hs
 refine wp_k (K := (vi M w r)) (by rintro _ _ ⟨σ, rfl, hrest⟩; exact Zh Try.results15 (zB rfl) ⟨rfl, hrest⟩) (c_sr ?_)
 obtain ⟨a9, a5, b2, b0, a4, a0⟩ := zi w [(iv a_.1), (.slice pa0 pn0 pc0)] 35
 refine za (w' := a9) (pq a5 0) (ZW rfl (by rw [b2, b0]; kernel_rfl)) ?_
 obtain ⟨h0, h1, hC⟩ := xt3 a4 h0 h1 hC
 have hO := hO.new1 a4 b0 a0.lt
 obtain ⟨b3, a6, b4, b1, a2, a3⟩ := zi a9 [(iv b.1), (.slice pa1 pn1 pc1)] 35
 refine za (w' := b3) (pq a6 0) (ZW rfl (by rw [b4, b1]; kernel_rfl)) ?_
 obtain ⟨h0, h1, a0, hC⟩ := xt4 a2 h0 h1 a0 hC
 have hO := hO.new1 a2 b1 a3.lt
 refine ab rfl (zb (zd (c_sr (za (pq a5 0) (zk rfl Yo) (za _ (ld rfl Ag3 Sz3 a0 rfl) (za (pq a6 0) (zk rfl Yo) (za _ (ld rfl Ag3 Sz3 a3 rfl) (za (.bool (a_.1 != b.1)) (xk rfl rfl) (zb ?_)))))))))
 rcases zf hs with ⟨a7, hs⟩ | ⟨a7, hs⟩
 ·refine zg (cb a7) (c_sr (ab rfl (zb (wp_ret ?_))))
  cases hs
  exact ⟨_, fr_m 16 rfl, hC⟩
 refine zh (cb a7) (wp_skip (zd (c_sr (za (pq a5 1) (zk rfl ZD) (za _ (ld rfl Ag33 Sz33 a0 rfl) (za (pq a6 1) (zk rfl ZD) (za _ (ld rfl Ag33 Sz33 a3 rfl) ?_)))))))
 obtain ⟨r7, b5, hs⟩ := bind_some hs
 refine zy Bd42 rfl (Uc (M := M) a_.2 b.2 h0 h1 hO.fut b5) ?_
 rintro _ b7 ⟨rfl, a1⟩
 obtain ⟨h0, h1, a0, a3, hC, hO⟩ := xt6 a1 h0 h1 a0 a3 hC hO
 refine za _ (ZQ rfl) (zb ?_)
 have hO := hO.drop.drop
 rcases zf hs with ⟨a8, hs⟩ | ⟨a8, hs⟩
 ·refine zg (cb a8) (c_sr (ab rfl (zb (wp_ret ?_))))
  cases hs
  exact ⟨_, fr_m 16 rfl, hC⟩
 refine zh (cb a8) (wp_skip (c_sr (ab rfl (zb (wp_ret ?_)))))
 cases hs
 exact ⟨_, fr_m 16 rfl, hC⟩

def wc (M : Nat → Prop) (w0 : World) (qa0 : Option Addr) (qn0 qc0 : Nat) (qf0 : List Nat) (r : Int × (List Int)) (a : Act) (w : World) : Prop :=
  ∃ (σ : Nat → Value) (rfi0 : List Nat), a = fr 19 (ovl σ [(4, (.int .i64 r.1))]) ∧ Chg (qf0 ++ ([])) w0 w ∧ (RT.os 3 (RT.int .i64)).val M w (.slice qa0 qn0 qc0) r.2 rfi0 ∧ Own (Nw w0 (qf0 ++ ([]))) (fun _ => True) w (rfi0 ++ ([]))
def Zy (a_ : List Int) (k : Int) : Option (Int × (List Int)) :=
  (iter (S := Int × Int × (List Int)) (R := Int × (List Int)) (fun s25 =>
  (bif (decide (s25.2.1 < (s25.2.2.length : Int))) then (idx s25.2.2 s25.2.1).bind fun x34 =>
  some (.nx (w64 (s25.1 + 1), w64 (s25.2.1 + 1), List.set s25.2.2 (Int.toNat s25.2.1) s25.1)) else some (.br (s25.1, s25.2.1, s25.2.2)))) FU (k, 0, a_)).bind fun o29 => after o29 (fun r_ => some r_) (fun s25 =>
  some (s25.1, s25.2.2))
set_option maxHeartbeats 4000000 in
theorem XV {M : Nat → Prop} {w : World} {pa0 : Option Addr} {pn0 pc0 : Nat} {pf0 : List Nat} (a_ : List Int) (k : Int) (h0 : (RT.os 3 ri).val M w (.slice pa0 pn0 pc0) a_ pf0) (hI : Own (Nw w (pf0 ++ ([]))) M w (pf0 ++ ([]))) (hM : ∀ g, w.heap.size ≤ g → M g) {r : Int × (List Int)} (hs : Zy a_ k = some r) :
    Gives Try.prog 60 [(.slice pa0 pn0 pc0), (iv k)] w (fun v w' => ∃ (rfi0 : List Nat), v = (iv r.1) ∧ Chg (pf0 ++ ([])) w w' ∧ (RT.os 3 ri).val M w' (.slice pa0 pn0 pc0) r.2 rfi0 ∧ Own (Nw w (pf0 ++ ([]))) (fun _ => True) w' (rfi0 ++ ([]))) := by
 refine zr Try.func60 rfl Try.ntmps60 (Nat.le_of_ble_eq_true rfl) ?_
 have hO := hI
 have hC := Chg.refl (pf0 ++ ([])) w
 unfold Zy at hs
 refine wp_k (K := (wc M w pa0 pn0 pc0 pf0 r)) (by rintro _ _ ⟨σ, rfi0, rfl, hrest⟩; exact Zh Try.results60 (zB rfl) ⟨rfi0, rfl, hrest⟩) (c_sr (ai rfl (zb (zd (c_sr (ai rfl (zb ?_)))))))
 obtain ⟨o29, b0, hs⟩ := bind_some hs
 refine wp_block (Zt (id := 0) (I := fun s25 a a0 => ∃ (σ : Nat → Value) (a2 : List Nat), a = fr 19 (ovl σ [(0, (.slice pa0 pn0 pc0)), (1, (iv s25.1)), (5, (iv s25.2.1))]) ∧ Chg (pf0 ++ ([])) w a0 ∧ Own (Nw w (pf0 ++ ([]))) M a0 (a2 ++ []) ∧ (RT.os 3 ri).val M a0 (.slice pa0 pn0 pc0) s25.2.2 a2) (J := fun s25 a a0 => ∃ (σ : Nat → Value) (a3 : List Nat), a = fr 19 (ovl σ [(1, (iv s25.1))]) ∧ Chg (pf0 ++ ([])) w a0 ∧ Own (Nw w (pf0 ++ ([]))) M a0 (a3 ++ []) ∧ (RT.os 3 ri).val M a0 (.slice pa0 pn0 pc0) s25.2.2 a3) (K := (wc M w pa0 pn0 pc0 pf0)) ?_ FU (k, 0, a_) o29 _ _ ?_ b0 ?_)
 ·rintro s25 o29 a a0 ⟨σ, a2, rfl, hC, hO, a1⟩ hs
  refine zd (c_sr (mi rfl (ms rfl (za _ (zn Sl43 (ZV a1) rfl) (za _ (zx rfl rfl) (zb ?_))))))
  rcases zf hs with ⟨a4, hs⟩ | ⟨a4, hs⟩
  ·refine zg (cb a4) (wp_skip (zd (wp_block (c_sr (ms rfl (mi rfl (mi rfl ?_)))))))
   obtain ⟨x34, b1, hs⟩ := bind_some hs
   obtain ⟨a6, c1, a7, b2, b3, c2, c3⟩ := zR Sl43 Sz3 a1 b1
   refine za _ (b3 _ _ _ _ _ _ _ _ _ rfl rfl) ?_
   obtain ⟨b4, b5, b6, a8, b7, a5⟩ := yn (P := Try.prog) (c' := [(iv s25.1)]) a7 a1 b2 (fun g hg => hO.inM g (zA a1 g (by simpa using hg))) ⟨rfl, rfl⟩ List.nodup_nil (fun _ h => nomatch h) (fun _ h => .inl h)
   have b8 : ∀ q ∈ [a6], q ∈ a2 := fun q hq => zA a1 q (by rw [a7]; exact hq)
   refine Zk (w' := b4) (zV rfl rfl (b6 _ _ rfl Sz3)) ?_
   have hC := hC.st a8 hO b8
   have hO := hO.grow a8 (fun q hq => .inl ((b7 q hq).resolve_right (fun h => nomatch h))) (zw a5) a5.fpl
   refine zb (ze (mi rfl (za _ (yad rfl rfl) (ai rfl (zb (ze (mi rfl (za _ (yad rfl rfl) (ai rfl (zb ?_))))))))))
   cases hs
   exact ⟨_, b5, fr_m 19 rfl, hC, hO, a5⟩
  refine zh (cb a4) (wp_exit ?_)
  cases hs
  exact ⟨rfl, _, a2, fr_m 19 rfl, hC, hO, a1⟩
 ·skip
  exact ⟨_, pf0, fr_m 19 rfl, hC, hO, h0⟩
 cases o29 with
 | nx _ => exact True.intro
 | rt r_ =>
  have hs := zp hs
  intro b9 a9 hK
  cases hs
  exact hK
 | br s25 =>
  have hs := zq hs
  rintro b9 a0 ⟨σ, a3, rfl, hC, hO, c0⟩
  refine c_sr (mi rfl (ai rfl (zb (wp_ret ?_))))
  cases hs
  exact ⟨_, a3, fr_m 19 rfl, hC, c0, hO.top⟩

theorem Bd60 : zC Try.prog 60 := zI Try.func60 (by kernel_rfl) rfl

def wn (M : Nat → Prop) (w0 : World) (qa0 : Option Addr) (qn0 qc0 : Nat) (qf0 : List Nat) (r : Int × (List (Int × (List Int)))) (a : Act) (w : World) : Prop :=
  ∃ (σ : Nat → Value) (rfi0 : List Nat), a = fr 27 (ovl σ [(4, (.int .i64 r.1))]) ∧ Chg (qf0 ++ ([])) w0 w ∧ (RT.os 89 (RT.pr (RT.int .i64) (RT.os 3 (RT.int .i64)))).val M w (.slice qa0 qn0 qc0) r.2 rfi0 ∧ Own (Nw w0 (qf0 ++ ([]))) (fun _ => True) w (rfi0 ++ ([]))
def xb (a_ : List (Int × (List Int))) (k : Int) : Option (Int × (List (Int × (List Int)))) :=
  (iter (S := Int × Int × (List (Int × (List Int)))) (R := Int × (List (Int × (List Int)))) (fun s57 =>
  (bif (decide (s57.2.1 < (s57.2.2.length : Int))) then (idx s57.2.2 s57.2.1).bind fun x67 =>
  (idx (List.set s57.2.2 (Int.toNat s57.2.1) (s57.1, x67.2)) s57.2.1).bind fun x71 =>
  (Zy x71.2 (w64 (s57.1 + 1))).bind fun r77 =>
  some (.nx (r77.1, w64 (s57.2.1 + 1), List.set (List.set s57.2.2 (Int.toNat s57.2.1) (s57.1, x67.2)) (Int.toNat s57.2.1) (x71.1, r77.2))) else some (.br (s57.1, s57.2.1, s57.2.2)))) FU (k, 0, a_)).bind fun o61 => after o61 (fun r_ => some r_) (fun s57 =>
  some (s57.1, s57.2.2))
set_option maxHeartbeats 4000000 in
theorem Vj {M : Nat → Prop} {w : World} {pa0 : Option Addr} {pn0 pc0 : Nat} {pf0 : List Nat} (a_ : List (Int × (List Int))) (k : Int) (h0 : (RT.os 89 (RT.pr ri (RT.os 3 ri))).val M w (.slice pa0 pn0 pc0) a_ pf0) (hI : Own (Nw w (pf0 ++ ([]))) M w (pf0 ++ ([]))) (hM : ∀ g, w.heap.size ≤ g → M g) {r : Int × (List (Int × (List Int)))} (hs : xb a_ k = some r) :
    Gives Try.prog 43 [(.slice pa0 pn0 pc0), (iv k)] w (fun v w' => ∃ (rfi0 : List Nat), v = (iv r.1) ∧ Chg (pf0 ++ ([])) w w' ∧ (RT.os 89 (RT.pr ri (RT.os 3 ri))).val M w' (.slice pa0 pn0 pc0) r.2 rfi0 ∧ Own (Nw w (pf0 ++ ([]))) (fun _ => True) w' (rfi0 ++ ([]))) := by
 refine zr Try.func43 rfl Try.ntmps43 (Nat.le_of_ble_eq_true rfl) ?_
 have hO := hI
 have hC := Chg.refl (pf0 ++ ([])) w
 unfold xb at hs
 refine wp_k (K := (wn M w pa0 pn0 pc0 pf0 r)) (by rintro _ _ ⟨σ, rfi0, rfl, hrest⟩; exact Zh Try.results43 (zB rfl) ⟨rfi0, rfl, hrest⟩) (c_sr (ai rfl (zb (zd (c_sr (ai rfl (zb ?_)))))))
 obtain ⟨o61, c8, hs⟩ := bind_some hs
 refine wp_block (Zt (id := 0) (I := fun s57 a a0 => ∃ (σ : Nat → Value) (a1 : List Nat), a = fr 27 (ovl σ [(0, (.slice pa0 pn0 pc0)), (1, (iv s57.1)), (5, (iv s57.2.1))]) ∧ Chg (pf0 ++ ([])) w a0 ∧ Own (Nw w (pf0 ++ ([]))) M a0 (a1 ++ []) ∧ (RT.os 89 (RT.pr ri (RT.os 3 ri))).val M a0 (.slice pa0 pn0 pc0) s57.2.2 a1) (J := fun s57 a a0 => ∃ (σ : Nat → Value) (a4 : List Nat), a = fr 27 (ovl σ [(1, (iv s57.1))]) ∧ Chg (pf0 ++ ([])) w a0 ∧ Own (Nw w (pf0 ++ ([]))) M a0 (a4 ++ []) ∧ (RT.os 89 (RT.pr ri (RT.os 3 ri))).val M a0 (.slice pa0 pn0 pc0) s57.2.2 a4) (K := (wn M w pa0 pn0 pc0 pf0)) ?_ FU (k, 0, a_) o61 _ _ ?_ c8 ?_)
 ·rintro s57 o61 a a0 ⟨σ, a1, rfl, hC, hO, a5⟩ hs
  refine zd (c_sr (mi rfl (ms rfl (za _ (zn Sl33 (ZV a5) rfl) (za _ (zx rfl rfl) (zb ?_))))))
  rcases zf hs with ⟨b1, hs⟩ | ⟨b1, hs⟩
  ·refine zg (cb b1) (wp_skip (zd (wp_block (c_sr (ms rfl (mi rfl (mi rfl ?_)))))))
   obtain ⟨x67, b5, hs⟩ := bind_some hs
   obtain ⟨a2, h2, c9, h3, d0, d1, d2⟩ := zR Sl33 Sz89 a5 b5
   have d3 := Zv (Frz.pr Frz.int (Frz.os Frz.int)) d1 d2
   refine za _ (d0 _ _ _ _ _ _ _ _ _ rfl rfl) ?_
   obtain ⟨h4, _⟩ := wF d3
   refine za (.pointer (some ⟨a2, (0 + Int.toNat s57.2.1 * 2) + 0, none⟩)) (zk rfl yM) ?_
   obtain ⟨b6, h5, d4, h6, d5, h7, d6, d7, h8, d8, b7, d9, hput70⟩ := os_focus c9 a5 b5 hO.inM
   obtain ⟨h9, b8, i0, e0, rfl, rfl, e1, b9⟩ := d7
   obtain ⟨rfl, rfl⟩ := e1
   have i1 := RT.len _ b9
   obtain ⟨b2, c0, a6, e2⟩ := ZA (P := Try.prog) d6 (b6) [(Value.int .i64 x67.1)] (b8 ++ (d4)) [(Value.int .i64 s57.1)] (by simp) rfl (by intro u hu; rw [List.mem_singleton.1 hu]; rfl)
   have e3 : (b6).length = ((0 + Int.toNat s57.2.1 * 2) + 0) := by
    simp only [List.length_append, d5]
    try rfl
   rw [e3] at c0
   have e4 : ∀ q ∈ [a2], M q ∨ (a0).heap.size ≤ q := fun q hq => .inl (by rw [List.mem_singleton.1 hq]; exact hO.inM _ b7)
   obtain ⟨e5, a7, e6⟩ := hput70 b2 [a2] ([(Value.int .i64 s57.1)] ++ b8) (s57.1, x67.2) (([] : List Nat) ++ e0) a6 (fun q hq => .inl (List.mem_singleton.1 hq)) (by simpa using e2) ⟨_, _, _, _, rfl, rfl, ⟨rfl, rfl⟩, (RT.mono _ b9 a6 e4 (fun q hq hq' => d9 (by rw [List.mem_singleton.1 hq] at hq'; simp [hq'])) (fun _ h => .inl h))⟩ d8 (fun q hq => .inl hq)
   refine Zk (w' := b2) (zV rfl rfl (c0 _ _ rfl Sz3)) ?_
   have e7 : ∀ q ∈ [a2], q ∈ a1 := fun q hq => by rw [List.mem_singleton.1 hq]; exact b7
   have hC := hC.st a6 hO e7
   have hO := hO.grow a6 e6 (zw a7) a7.fpl
   refine zb (c_sr (mi rfl (za _ (yad rfl rfl) (ai rfl (zb (ze (ms rfl (mi rfl ?_))))))))
   obtain ⟨x71, c1, hs⟩ := bind_some hs
   obtain ⟨c2, i2, e8, i3, e9, f0, f1⟩ := zR Sl33 Sz89 a7 c1
   have c3 := Zv (Frz.pr Frz.int (Frz.os Frz.int)) f0 f1
   refine za _ (e9 _ _ _ _ _ _ _ _ _ rfl rfl) ?_
   obtain ⟨_, i4⟩ := wF c3
   refine za (.pointer (some ⟨c2, (0 + Int.toNat s57.2.1 * 2) + 1, none⟩)) (zk rfl xE) ?_
   obtain ⟨i5, hrow74, f2⟩ := at_open c3
   obtain ⟨i6, i7, rfl, f3, f4⟩ := Yz f2
   obtain rfl := YN f3
   obtain ⟨a8, a9, b0, rfl, i9⟩ := xp f4
   refine za (.slice a8 a9 b0) (zo rfl ((part_load (l1 := [(iv x71.1)]) (c := [(.slice a8 a9 b0)]) (l2 := []) Ag43 Sz43 hrow74 rfl rfl (fun _ => rfl)) _ (Chg.refl _ _))) (mi rfl ?_)
   obtain ⟨j0, f5, f6, f7, hput76⟩ := os_put e8 a7 c1 hrow74 rfl hO.inM
   obtain ⟨j1, a3, rfl, f8, f9⟩ := pr_split (c := [(iv x71.1)]) (d := [(.slice a8 a9 b0)]) f5 rfl
   obtain rfl := int_fp f8
   have g0 : (RT.os 3 ri).val M b2 (.slice a8 a9 b0) x71.2 a3 := ⟨[_], rfl, f9⟩
   have c4 : ∀ q ∈ (a3 ++ ([])), q ∈ e5 := fun q hq => f6 q (by simpa using hq)
   have g1 : List.Nodup (a3 ++ ([])) := by simpa using f7
   have g2 := hO
   have c5 := Own.part (X := (a3 ++ ([]))) (g2) c4 g1
   obtain ⟨r77, g3, hs⟩ := bind_some hs
   refine zy Bd60 rfl (XV (M := M) x71.2 (w64 (s57.1 + 1)) g0 c5 c5.fut g3) ?_
   rintro _ g4 ⟨g5, rfl, b3, g6, c6⟩
   obtain ⟨g7, b4, g8⟩ := hput76 g4 (a3 ++ ([])) (x71.1, r77.2) (([] : List Nat) ++ g5) b3 (fun q hq => by simpa using hq) ⟨_, _, _, _, rfl, rfl, ⟨rfl, rfl⟩, (Zs g6)⟩ (by simpa using c6.1) (fun q hq => (c6.2.1 q (by simpa using hq)).2.2.imp (fun h => by simpa using h) id)
   have hC := hC.st b3 hO c4
   have hO := hO.grow b3 g8 (zw b4) b4.fpl
   refine ai rfl (zb (ze (mi rfl (za _ (yad rfl rfl) (ai rfl (zb ?_))))))
   cases hs
   exact ⟨_, g7, fr_m 27 rfl, hC, hO, b4⟩
  refine zh (cb b1) (wp_exit ?_)
  cases hs
  exact ⟨rfl, _, a1, fr_m 27 rfl, hC, hO, a5⟩
 ·skip
  exact ⟨_, pf0, fr_m 27 rfl, hC, hO, h0⟩
 cases o61 with
 | nx _ => exact True.intro
 | rt r_ =>
  have hs := zp hs
  intro g9 c7 hK
  cases hs
  exact hK
 | br s57 =>
  have hs := zq hs
  rintro g9 a0 ⟨σ, a4, rfl, hC, hO, h1⟩
  refine c_sr (mi rfl (ai rfl (zb (wp_ret ?_))))
  cases hs
  exact ⟨_, a4, fr_m 27 rfl, hC, h1, hO.top⟩

theorem Bd43 : zC Try.prog 43 := zI Try.func43 (by kernel_rfl) rfl

def Wm (M : Nat → Prop) (w0 : World) (qa0 : Option Addr) (qn0 qc0 : Nat) (qf0 : List Nat) (r : Int × (List (Int × (List Int)))) (a : Act) (w : World) : Prop :=
  ∃ (σ : Nat → Value) (rfi0 : List Nat), a = fr 10 (ovl σ [(4, (.int .i64 r.1))]) ∧ Chg (qf0 ++ ([])) w0 w ∧ (RT.os 89 (RT.pr (RT.int .i64) (RT.os 3 (RT.int .i64)))).val M w (.slice qa0 qn0 qc0) r.2 rfi0 ∧ Own (Nw w0 (qf0 ++ ([]))) (fun _ => True) w (rfi0 ++ ([]))
def yf (a_ : Int × (List (Int × (List Int)))) (k : Int) : Option (Int × (List (Int × (List Int)))) :=
  (xb a_.2 k).bind fun r4 =>
  some (r4.1, r4.2)
set_option maxHeartbeats 4000000 in
theorem Wd {M : Nat → Prop} {w : World} {pa0 : Option Addr} {pn0 pc0 : Nat} {pf0 : List Nat} (a_ : Int × (List (Int × (List Int)))) (k : Int) (h0 : (RT.os 89 (RT.pr ri (RT.os 3 ri))).val M w (.slice pa0 pn0 pc0) a_.2 pf0) (hI : Own (Nw w (pf0 ++ ([]))) M w (pf0 ++ ([]))) (hM : ∀ g, w.heap.size ≤ g → M g) {r : Int × (List (Int × (List Int)))} (hs : yf a_ k = some r) :
    Gives Try.prog 16 [(.agg #[(iv a_.1), (.slice pa0 pn0 pc0)]), (iv k)] w (fun v w' => ∃ (rfi0 : List Nat), v = (iv r.1) ∧ Chg (pf0 ++ ([])) w w' ∧ (RT.os 89 (RT.pr ri (RT.os 3 ri))).val M w' (.slice pa0 pn0 pc0) r.2 rfi0 ∧ Own (Nw w (pf0 ++ ([]))) (fun _ => True) w' (rfi0 ++ ([]))) := by
 refine zr Try.func16 rfl Try.ntmps16 (Nat.le_of_ble_eq_true rfl) ?_
 have hO := hI
 have hC := Chg.refl (pf0 ++ ([])) w
 unfold yf at hs
 refine wp_k (K := (Wm M w pa0 pn0 pc0 pf0 r)) (by rintro _ _ ⟨σ, rfi0, rfl, hrest⟩; exact Zh Try.results16 (zB rfl) ⟨rfi0, rfl, hrest⟩) (c_sr ?_)
 obtain ⟨a7, a0, a8, a4, a2, a1⟩ := zi w [(iv a_.1), (.slice pa0 pn0 pc0)] 35
 refine za (w' := a7) (pq a0 0) (ZW rfl (by rw [a8, a4]; kernel_rfl)) ?_
 obtain ⟨h0, hC⟩ := xt2 a2 h0 hC
 have hO := hO.new1 a2 a4 a1.lt
 refine ai rfl (zb (c_sr (za (pq a0 1) (zk rfl ZD) (za _ (ld rfl Ag33 Sz33 a1 rfl) (mi rfl ?_)))))
 have hO := hO.fr1
 have a9 := hO
 have a5 := Own.lend (F := (pf0 ++ ([]))) (R := ([a0]) ++ ([])) (Own.perm (a9) (by simp))
 obtain ⟨r4, b0, hs⟩ := bind_some hs
 refine zy Bd43 rfl (Vj (M := M) a_.2 k h0 a5 a5.fut b0) ?_
 rintro _ b4 ⟨a6, rfl, a3, b1, b2⟩
 have hO := hO.perm (R := (pf0 ++ ([])) ++ (([a0]) ++ ([]))) (by simp)
 have a1 := a1.ap a3 hO zj (zm (List.mem_singleton.2 rfl))
 have hC := hC.st a3 hO zj
 have hO := Own.join hO a3 b2
 have hO := hO.perm (R := a6 ++ (([a0]) ++ ([]))) (by simp)
 refine ai rfl (zb ?_)
 have hO := hO.fr1.drop
 refine c_sr (mi rfl (ai rfl (zb (wp_ret ?_))))
 cases hs
 exact ⟨_, a6, fr_m 10 rfl, hC, b1, hO.top⟩

def XE (M : Nat → Prop) (w0 : World) (qa0 : Option Addr) (qn0 qc0 : Nat) (qf0 : List Nat) (r : Int × (List (List Int))) (a : Act) (w : World) : Prop :=
  ∃ (σ : Nat → Value) (rfi0 : List Nat), a = fr 19 (ovl σ [(4, (.int .i64 r.1))]) ∧ Chg (qf0 ++ ([])) w0 w ∧ (RT.os 43 (RT.os 3 (RT.int .i64))).val M w (.slice qa0 qn0 qc0) r.2 rfi0 ∧ Own (Nw w0 (qf0 ++ ([]))) (fun _ => True) w (rfi0 ++ ([]))
def yH (a_ : List (List Int)) (k : Int) : Option (Int × (List (List Int))) :=
  (iter (S := Int × Int × (List (List Int))) (R := Int × (List (List Int))) (fun s37 =>
  (bif (decide (s37.2.1 < (s37.2.2.length : Int))) then (idx s37.2.2 s37.2.1).bind fun x46 =>
  (Zy x46 s37.1).bind fun r51 =>
  some (.nx (r51.1, w64 (s37.2.1 + 1), List.set s37.2.2 (Int.toNat s37.2.1) r51.2)) else some (.br (s37.1, s37.2.1, s37.2.2)))) FU (k, 0, a_)).bind fun o41 => after o41 (fun r_ => some r_) (fun s37 =>
  some (s37.1, s37.2.2))
set_option maxHeartbeats 4000000 in
theorem WS {M : Nat → Prop} {w : World} {pa0 : Option Addr} {pn0 pc0 : Nat} {pf0 : List Nat} (a_ : List (List Int)) (k : Int) (h0 : (RT.os 43 (RT.os 3 ri)).val M w (.slice pa0 pn0 pc0) a_ pf0) (hI : Own (Nw w (pf0 ++ ([]))) M w (pf0 ++ ([]))) (hM : ∀ g, w.heap.size ≤ g → M g) {r : Int × (List (List Int))} (hs : yH a_ k = some r) :
    Gives Try.prog 30 [(.slice pa0 pn0 pc0), (iv k)] w (fun v w' => ∃ (rfi0 : List Nat), v = (iv r.1) ∧ Chg (pf0 ++ ([])) w w' ∧ (RT.os 43 (RT.os 3 ri)).val M w' (.slice pa0 pn0 pc0) r.2 rfi0 ∧ Own (Nw w (pf0 ++ ([]))) (fun _ => True) w' (rfi0 ++ ([]))) := by
 refine zr Try.func30 rfl Try.ntmps30 (Nat.le_of_ble_eq_true rfl) ?_
 have hO := hI
 have hC := Chg.refl (pf0 ++ ([])) w
 unfold yH at hs
 refine wp_k (K := (XE M w pa0 pn0 pc0 pf0 r)) (by rintro _ _ ⟨σ, rfi0, rfl, hrest⟩; exact Zh Try.results30 (zB rfl) ⟨rfi0, rfl, hrest⟩) (c_sr (ai rfl (zb (zd (c_sr (ai rfl (zb ?_)))))))
 obtain ⟨o41, b6, hs⟩ := bind_some hs
 refine wp_block (Zt (id := 0) (I := fun s37 a a0 => ∃ (σ : Nat → Value) (a1 : List Nat), a = fr 19 (ovl σ [(0, (.slice pa0 pn0 pc0)), (1, (iv s37.1)), (5, (iv s37.2.1))]) ∧ Chg (pf0 ++ ([])) w a0 ∧ Own (Nw w (pf0 ++ ([]))) M a0 (a1 ++ []) ∧ (RT.os 43 (RT.os 3 ri)).val M a0 (.slice pa0 pn0 pc0) s37.2.2 a1) (J := fun s37 a a0 => ∃ (σ : Nat → Value) (a3 : List Nat), a = fr 19 (ovl σ [(1, (iv s37.1))]) ∧ Chg (pf0 ++ ([])) w a0 ∧ Own (Nw w (pf0 ++ ([]))) M a0 (a3 ++ []) ∧ (RT.os 43 (RT.os 3 ri)).val M a0 (.slice pa0 pn0 pc0) s37.2.2 a3) (K := (XE M w pa0 pn0 pc0 pf0)) ?_ FU (k, 0, a_) o41 _ _ ?_ b6 ?_)
 ·rintro s37 o41 a a0 ⟨σ, a1, rfl, hC, hO, a4⟩ hs
  refine zd (c_sr (mi rfl (ms rfl (za _ (zn Sl25 (ZV a4) rfl) (za _ (zx rfl rfl) (zb ?_))))))
  rcases zf hs with ⟨a5, hs⟩ | ⟨a5, hs⟩
  ·refine zg (cb a5) (wp_skip (zd (wp_block (ze (ms rfl (mi rfl ?_))))))
   obtain ⟨x46, a8, hs⟩ := bind_some hs
   obtain ⟨b7, d9, b8, e0, b9, c0, c1⟩ := zR Sl25 Sz43 a4 a8
   have c2 := Zv (Frz.os Frz.int) c0 c1
   refine za _ (b9 _ _ _ _ _ _ _ _ _ rfl rfl) ?_
   obtain ⟨e1, c3, hrow48, c4⟩ := ZG Ag43 Sz43 rfl rfl c2
   obtain ⟨a9, b0, b1, rfl⟩ := yd c4
   refine za (.slice a9 b0 b1) (zo rfl (c3 _ (Chg.refl _ _))) (mi rfl ?_)
   obtain ⟨a2, c5, c6, c7, hput50⟩ := os_put b8 a4 a8 hrow48 rfl hO.inM
   have c8 : (RT.os 3 ri).val M a0 (.slice a9 b0 b1) x46 a2 := ⟨[_], rfl, c5⟩
   have b2 : ∀ q ∈ (a2 ++ ([])), q ∈ a1 := fun q hq => c6 q (by simpa using hq)
   have c9 : List.Nodup (a2 ++ ([])) := by simpa using c7
   have d0 := hO
   have b3 := Own.part (X := (a2 ++ ([]))) (d0) b2 c9
   obtain ⟨r51, d1, hs⟩ := bind_some hs
   refine zy Bd60 rfl (XV (M := M) x46 s37.1 c8 b3 b3.fut d1) ?_
   rintro _ d2 ⟨d3, rfl, a6, d4, b4⟩
   obtain ⟨d5, a7, d6⟩ := hput50 d2 (a2 ++ ([])) r51.2 d3 a6 (fun q hq => by simpa using hq) (Zs d4) (by simpa using b4.1) (fun q hq => (b4.2.1 q (by simpa using hq)).2.2.imp (fun h => by simpa using h) id)
   have hC := hC.st a6 hO b2
   have hO := hO.grow a6 d6 (zw a7) a7.fpl
   refine ai rfl (zb (ze (mi rfl (za _ (yad rfl rfl) (ai rfl (zb ?_))))))
   cases hs
   exact ⟨_, d5, fr_m 19 rfl, hC, hO, a7⟩
  refine zh (cb a5) (wp_exit ?_)
  cases hs
  exact ⟨rfl, _, a1, fr_m 19 rfl, hC, hO, a4⟩
 ·skip
  exact ⟨_, pf0, fr_m 19 rfl, hC, hO, h0⟩
 cases o41 with
 | nx _ => exact True.intro
 | rt r_ =>
  have hs := zp hs
  intro d7 b5 hK
  cases hs
  exact hK
 | br s37 =>
  have hs := zq hs
  rintro d7 a0 ⟨σ, a3, rfl, hC, hO, d8⟩
  refine c_sr (mi rfl (ai rfl (zb (wp_ret ?_))))
  cases hs
  exact ⟨_, a3, fr_m 19 rfl, hC, d8, hO.top⟩

def wd (M : Nat → Prop) (w0 : World) (r : Int) (a : Act) (w : World) : Prop :=
  ∃ (σ : Nat → Value) , a = fr 21 (ovl σ [(4, (.int .i64 r))]) ∧ Chg [] w0 w
def yc (a_ : List Int) (k : Int) : Option (Int) :=
  (forC (S := Int) (R := Int) (fun k7 s5 =>
  (idx a_ k7).bind fun x11 =>
  (bif (x11 != s5) then some (.rt (-1)) else some (.nx (w64 (s5 + 1))))) 0 (a_.length : Int) k).bind fun o9 => after o9 (fun r_ => some r_) (fun s5 =>
  some s5)
set_option maxHeartbeats 4000000 in
theorem vG {M : Nat → Prop} {w : World} {pa0 : Option Addr} {pn0 pc0 : Nat} (a_ : List Int) (k : Int) (h0 : rl.val M w (.slice pa0 pn0 pc0) a_ ([])) (hM : ∀ g, w.heap.size ≤ g → M g) {r : Int} (hs : yc a_ k = some r) :
    Gives Try.prog 61 [(.slice pa0 pn0 pc0), (iv k)] w (fun v w' => v = (iv r) ∧ Chg [] w w') := by
 refine zr Try.func61 rfl Try.ntmps61 (Nat.le_of_ble_eq_true rfl) ?_
 have hO := Own.start (N := Nw w []) hM Nw.fut
 have hC := Chg.refl [] w
 unfold yc at hs
 refine wp_k (K := (wd M w r)) (by rintro _ _ ⟨σ, rfl, hrest⟩; exact Zh Try.results61 (zB rfl) ⟨rfl, hrest⟩) (c_sr (ai rfl (zb (zd (c_sr (ai rfl (zb ?_)))))))
 obtain ⟨o9, a3, hs⟩ := bind_some hs
 refine wp_block (zW (id := 0) (a_.length : Int) (I := fun k7 s5 a a0 => ∃ (σ : Nat → Value), a = fr 21 (ovl σ [(0, (.slice pa0 pn0 pc0)), (1, (iv s5)), (5, (iv k7))]) ∧ Chg [] w a0 ∧ Own (Nw w []) M a0 ([]) ∧ rl.val M a0 (.slice pa0 pn0 pc0) a_ ([])) (J := fun s5 a a0 => ∃ (σ : Nat → Value), a = fr 21 (ovl σ [(1, (iv s5))]) ∧ Chg [] w a0 ∧ Own (Nw w []) M a0 ([]) ∧ rl.val M a0 (.slice pa0 pn0 pc0) a_ ([])) (K := (wd M w)) ?_ ?_ 0 k o9 _ _ ?_ a3 ?_)
 ·rintro k7 s5 a a0 ⟨σ, rfl, hC, hO, h0⟩ hlt
  refine zd (c_sr (mi rfl (ms rfl (za _ (zn Sl43 (zu h0) rfl) (za _ (zx rfl rfl) (zb (zh (cb (decide_eq_false hlt)) (wp_exit ?_))))))))
  exact ⟨rfl, _, fr_m 21 rfl, hC, hO, h0⟩
 ·rintro k7 s5 o9 a a0 ⟨σ, rfl, hC, hO, h0⟩ hlt hw hs
  refine zd (c_sr (mi rfl (ms rfl (za _ (zn Sl43 (zu h0) rfl) (za _ (zx rfl rfl) (zb (zg (cb (decide_eq_true hlt)) (wp_skip (zd (wp_block (zd (c_sr (ms rfl (mi rfl ?_))))))))))))))
  obtain ⟨x11, a4, hs⟩ := bind_some hs
  obtain ⟨a5, a6, a7, a8⟩ := zN Sl43 Sz3 h0 a4
  refine za _ (a7 _ _ _ _ _ _ _ _ _ rfl rfl) (za (iv x11) (zo rfl ((zz Ag3 Sz3 a8) _ (Chg.refl _ _))) (mi rfl (za (.bool (x11 != s5)) (xk rfl rfl) (zb ?_))))
  rcases zf hs with ⟨a1, hs⟩ | ⟨a1, hs⟩
  ·refine zg (cb a1) (c_sr (ai rfl (zb (wp_ret ?_))))
   cases hs
   exact ⟨_, fr_m 21 rfl, hC⟩
  refine zh (cb a1) (wp_skip (ze (mi rfl (za _ (yad rfl rfl) (ai rfl (zb (ze (mi rfl (za _ (yad rfl rfl) (ai rfl (zb ?_)))))))))))
  cases hs
  exact ⟨_, zD 21 ⟨rfl, rfl, congrArg (Value.int .i64) hw, trivial⟩, hC, hO, h0⟩
 ·skip
  exact ⟨_, fr_m 21 rfl, hC, hO, h0⟩
 cases o9 with
 | nx _ => exact True.intro
 | rt r_ =>
  have hs := zp hs
  intro a9 a2 hK
  cases hs
  exact hK
 | br s5 =>
  have hs := zq hs
  rintro a9 a0 ⟨σ, rfl, hC, hO, h0⟩
  refine c_sr (mi rfl (ai rfl (zb (wp_ret ?_))))
  cases hs
  exact ⟨_, fr_m 21 rfl, hC⟩

theorem Bd61 : zC Try.prog 61 := zI Try.func61 (by kernel_rfl) rfl

def XA (M : Nat → Prop) (w0 : World) (r : Int) (a : Act) (w : World) : Prop :=
  ∃ (σ : Nat → Value) , a = fr 21 (ovl σ [(4, (.int .i64 r))]) ∧ Chg [] w0 w
def yg (a_ : List (List Int)) (k : Int) : Option (Int) :=
  (forC (S := Int) (R := Int) (fun k11 s9 =>
  (idx a_ k11).bind fun x15 =>
  (yc x15 s9).bind fun r20 =>
  (bif (decide (r20 < 0)) then some (.rt (-1)) else some (.nx r20))) 0 (a_.length : Int) k).bind fun o13 => after o13 (fun r_ => some r_) (fun s9 =>
  some s9)
set_option maxHeartbeats 4000000 in
theorem Xx {M : Nat → Prop} {w : World} {pa0 : Option Addr} {pn0 pc0 : Nat} (a_ : List (List Int)) (k : Int) (h0 : (RT.rs rl).val M w (.slice pa0 pn0 pc0) a_ ([])) (hM : ∀ g, w.heap.size ≤ g → M g) {r : Int} (hs : yg a_ k = some r) :
    Gives Try.prog 31 [(.slice pa0 pn0 pc0), (iv k)] w (fun v w' => v = (iv r) ∧ Chg [] w w') := by
 refine zr Try.func31 rfl Try.ntmps31 (Nat.le_of_ble_eq_true rfl) ?_
 have hO := Own.start (N := Nw w []) hM Nw.fut
 have hC := Chg.refl [] w
 unfold yg at hs
 refine wp_k (K := (XA M w r)) (by rintro _ _ ⟨σ, rfl, hrest⟩; exact Zh Try.results31 (zB rfl) ⟨rfl, hrest⟩) (c_sr (ai rfl (zb (zd (c_sr (ai rfl (zb ?_)))))))
 obtain ⟨o13, a6, hs⟩ := bind_some hs
 refine wp_block (zW (id := 0) (a_.length : Int) (I := fun k11 s9 a a0 => ∃ (σ : Nat → Value), a = fr 21 (ovl σ [(0, (.slice pa0 pn0 pc0)), (1, (iv s9)), (5, (iv k11))]) ∧ Chg [] w a0 ∧ Own (Nw w []) M a0 ([]) ∧ (RT.rs rl).val M a0 (.slice pa0 pn0 pc0) a_ ([])) (J := fun s9 a a0 => ∃ (σ : Nat → Value), a = fr 21 (ovl σ [(1, (iv s9))]) ∧ Chg [] w a0 ∧ Own (Nw w []) M a0 ([]) ∧ (RT.rs rl).val M a0 (.slice pa0 pn0 pc0) a_ ([])) (K := (XA M w)) ?_ ?_ 0 k o13 _ _ ?_ a6 ?_)
 ·rintro k11 s9 a a0 ⟨σ, rfl, hC, hO, h0⟩ hlt
  refine zd (c_sr (mi rfl (ms rfl (za _ (zn Sl25 (zu h0) rfl) (za _ (zx rfl rfl) (zb (zh (cb (decide_eq_false hlt)) (wp_exit ?_))))))))
  exact ⟨rfl, _, fr_m 21 rfl, hC, hO, h0⟩
 ·rintro k11 s9 o13 a a0 ⟨σ, rfl, hC, hO, h0⟩ hlt hw hs
  refine zd (c_sr (mi rfl (ms rfl (za _ (zn Sl25 (zu h0) rfl) (za _ (zx rfl rfl) (zb (zg (cb (decide_eq_true hlt)) (wp_skip (zd (wp_block (c_sr (ms rfl (mi rfl ?_)))))))))))))
  obtain ⟨x15, a7, hs⟩ := bind_some hs
  obtain ⟨a8, a9, b0, a3⟩ := zN Sl25 Sz43 h0 a7
  refine za _ (b0 _ _ _ _ _ _ _ _ _ rfl rfl) ?_
  obtain ⟨b7, b1, a2⟩ := Zj Ag43 Sz43 (fun _ => rfl) a3
  obtain ⟨b2, b3, b4, rfl⟩ := yd a2
  refine za (.slice b2 b3 b4) (zo rfl (b1 _ (Chg.refl _ _))) (mi rfl ?_)
  obtain ⟨r20, b5, hs⟩ := bind_some hs
  refine zy Bd61 rfl (vG (M := M) x15 s9 a2 hO.fut b5) ?_
  rintro _ b8 ⟨rfl, a1⟩
  obtain ⟨h0, a2, a3, hC, hO⟩ := xt5 a1 h0 a2 a3 hC hO
  refine ai rfl (zb (c_sr (mi rfl (za _ (zx rfl rfl) (zb ?_)))))
  rcases zf hs with ⟨a4, hs⟩ | ⟨a4, hs⟩
  ·refine zg (cb a4) (c_sr (ai rfl (zb (wp_ret ?_))))
   cases hs
   exact ⟨_, fr_m 21 rfl, hC⟩
  refine zh (cb a4) (wp_skip (ze (mi rfl (za _ (yad rfl rfl) (ai rfl (zb ?_))))))
  cases hs
  exact ⟨_, zD 21 ⟨rfl, rfl, congrArg (Value.int .i64) hw, trivial⟩, hC, hO, h0⟩
 ·skip
  exact ⟨_, fr_m 21 rfl, hC, hO, h0⟩
 cases o13 with
 | nx _ => exact True.intro
 | rt r_ =>
  have hs := zp hs
  intro b6 a5 hK
  cases hs
  exact hK
 | br s9 =>
  have hs := zq hs
  rintro b6 a0 ⟨σ, rfl, hC, hO, h0⟩
  refine c_sr (mi rfl (ai rfl (zb (wp_ret ?_))))
  cases hs
  exact ⟨_, fr_m 21 rfl, hC⟩

theorem Ag24 : AggT Try.prog 24 true := fun _ => by kernel_rfl

theorem Sz24 : SzT Try.prog 24 2 := ⟨_, rfl, rfl⟩

theorem Bd8 : zC Try.prog 8 := zI Try.func8 (by kernel_rfl) rfl

theorem Bd11 : zC Try.prog 11 := zI Try.func11 (by kernel_rfl) rfl

theorem Bd32 : zC Try.prog 32 := zI Try.func32 (by kernel_rfl) rfl

theorem Bd33 : zC Try.prog 33 := zI Try.func33 (by kernel_rfl) rfl

theorem Bd29 : zC Try.prog 29 := zI Try.func29 (by kernel_rfl) rfl

theorem Bd15 : zC Try.prog 15 := zI Try.func15 (by kernel_rfl) rfl

theorem Bd16 : zC Try.prog 16 := zI Try.func16 (by kernel_rfl) rfl

theorem Bd30 : zC Try.prog 30 := zI Try.func30 (by kernel_rfl) rfl

theorem Bd31 : zC Try.prog 31 := zI Try.func31 (by kernel_rfl) rfl

def XC (M : Nat → Prop) (w0 : World) (r : Bool) (a : Act) (w : World) : Prop :=
  ∃ (σ : Nat → Value) , a = fr 101 (ovl σ [(4, (.bool r))]) ∧ Chg [] w0 w
def yu (aA : Int × (List (Int × (List Int)))) (aK : Int) : Option (Bool) :=
  (ZS (aA.1, aA.2) 1048576).bind fun r4 =>
  (bif (decide (r4 < 0)) then some true else (ZC (aA.1, aA.2)).bind fun r7 =>
  (Ya (r7.1, r7.2) aK).bind fun r10 =>
  (ZC (aA.1, aA.2)).bind fun r13 =>
  (yG (r13.1, r13.2) aK).bind fun r18 =>
  ((ym r18.1 r10.1).bind fun r24 =>
  (bif (!r24) then some true else some (!(r18.2 == r10.2)))).bind fun s20 =>
  (bif s20 then some false else (ZC (aA.1, aA.2)).bind fun r35 =>
  (yF (r13.1, r13.2) (r35.1, r35.2)).bind fun r38 =>
  (bif (!r38) then some false else (yf (r13.1, r13.2) 1).bind fun r41 =>
  ((bif (decide (r41.1 < 0)) then some true else (ym r18.1 r10.1).bind fun r47 =>
  (bif (!r47) then some true else some (!(r18.2 == r10.2))))).bind fun s42 =>
  (bif s42 then some false else (yH r18.1 1).bind fun r51 =>
  (yg r51.2 1).bind fun r53 =>
  (bif (decide (r53 < 0)) then some false else (bif (r53 != r51.1) then some false else (ZC (aA.1, aA.2)).bind fun r57 =>
  (yG (r57.1, r57.2) aK).bind fun r60 =>
  ((ym r60.1 r10.1).bind fun r66 =>
  (bif (!r66) then some true else some (!(r60.2 == r10.2)))).bind fun s62 =>
  (bif s62 then some false else (yg r51.2 1).bind fun r70 =>
  (bif (decide (r70 < 0)) then some false else (bif (r70 != r51.1) then some false else some true)))))))))
set_option maxHeartbeats 4000000 in
theorem Xu {M : Nat → Prop} {w : World} {pa0 : Option Addr} {pn0 pc0 : Nat} (aA : Int × (List (Int × (List Int)))) (aK : Int) (h0 : (RT.rs (RT.pr ri rl)).val M w (.slice pa0 pn0 pc0) aA.2 ([])) (hM : ∀ g, w.heap.size ≤ g → M g) {r : Bool} (hs : yu aA aK = some r) :
    Gives Try.prog 7 [(.agg #[(iv aA.1), (.slice pa0 pn0 pc0)]), (iv aK)] w (fun v w' => v = (.bool r) ∧ Chg [] w w') := by
 refine zr Try.func7 rfl Try.ntmps7 (Nat.le_of_ble_eq_true rfl) ?_
 have hO := Own.start (N := Nw w []) hM Nw.fut
 have hC := Chg.refl [] w
 unfold yu at hs
 refine wp_k (K := (XC M w r)) (by rintro _ _ ⟨σ, rfl, hrest⟩; exact Zh Try.results7 (zB rfl) ⟨rfl, hrest⟩) (c_sr ?_)
 obtain ⟨i3, a5, i4, g8, f2, a0⟩ := zi w [(iv aA.1), (.slice pa0 pn0 pc0)] 24
 refine za (w' := i3) (pq a5 0) (ZW rfl (by rw [i4, g8]; kernel_rfl)) ?_
 obtain ⟨h0, hC⟩ := xt2 f2 h0 hC
 have hO := hO.new1 f2 g8 a0.lt
 refine ab rfl (zb (c_sr (ai rfl (zb (c_sr (za _ (ldw rfl Ag24 a0 Sz24) (mi rfl ?_)))))))
 obtain ⟨r4, i5, hs⟩ := bind_some hs
 refine zy Bd8 rfl (va (M := M) (aA.1, aA.2) 1048576 h0 hO.fut i5) ?_
 rintro _ m5 ⟨rfl, e5⟩
 obtain ⟨h0, a0, hC, hO⟩ := xt4 e5 h0 a0 hC hO
 refine ai rfl (zb (zd (c_sr (mi rfl (za _ (zx rfl rfl) (zb ?_))))))
 rcases zf hs with ⟨f3, hs⟩ | ⟨f3, hs⟩
 ·refine zg (cb f3) (c_sr (ab rfl (zb (wp_ret ?_))))
  cases hs
  exact ⟨_, fr_m 101 rfl, hC⟩
 refine zh (cb f3) (wp_skip (c_sr (za _ (ldw rfl Ag24 a0 Sz24) ?_)))
 obtain ⟨r7, i6, hs⟩ := bind_some hs
 refine zy Bd11 rfl (Yy (M := M) (aA.1, aA.2) h0 hO.fut i6) ?_
 rintro _ m6 ⟨m7, m8, m9, f4, rfl, e6, f5, i7⟩
 obtain ⟨h0, a0, hC⟩ := xt3 e6 h0 a0 hC
 have hO := Own.join0 hO e6 i7
 have hO := hO.perm (R := f4 ++ (([a5]) ++ ([]))) (by simp)
 refine mi rfl ?_
 obtain ⟨r10, i9, hs⟩ := bind_some hs
 refine zy Bd32 rfl (vj (M := (Less M f4)) (r7.1, r7.2) aK (((Frz.os (Frz.pr Frz.int (Frz.os Frz.int)))).val f5 Less.sub Less.not) hO.less.fut i9) ?_
 rintro _ n0 ⟨c0, c1, c2, a6, rfl, e0, a1, j0⟩
 obtain ⟨h0, a0, f5, hC⟩ := xt4 e0 h0 a0 f5 hC
 have hO := Own.join0 hO e0 j0
 have hO := hO.perm (R := a6 ++ (f4 ++ (([a5]) ++ ([])))) (by simp)
 have a1 := a1.free (M' := M) (Free.os (Free.os Free.int))
 refine za (.tuple #[(.slice c0 c1 c2), (.bool r10.2)]) (zt rfl) (za (.slice c0 c1 c2) (zO rfl (by kernel_rfl)) (za (.bool r10.2) (zO rfl (by kernel_rfl)) (ax rfl (ab rfl (zb ?_)))))
 have hO := hO.fr1.drop
 refine c_sr (za _ (ldw rfl Ag24 a0 Sz24) ?_)
 obtain ⟨r13, j1, hs⟩ := bind_some hs
 refine zy Bd11 rfl (Yy (M := M) (aA.1, aA.2) h0 hO.fut j1) ?_
 rintro _ j2 ⟨c3, c4, c5, c8, rfl, e1, a3, j3⟩
 obtain ⟨h0, a0, a1, hC⟩ := xt4 e1 h0 a0 a1 hC
 have hO := Own.join0 hO e1 j3
 have hO := hO.perm (R := c8 ++ (a6 ++ (([a5]) ++ ([])))) (by simp)
 obtain ⟨j4, c6, j5, g9, d4, h1⟩ := zi j2 [(iv 0), (.slice none 0 0)] 35
 refine za (w' := j4) (pq c6 0) (xa (by rw [j5, g9]; kernel_rfl)) ?_
 obtain ⟨h0, a0, a1, a3, hC⟩ := xt5 d4 h0 a0 a1 a3 hC
 have hO := hO.new1 d4 g9 h1.lt
 obtain ⟨h2, j6, d5, a4⟩ := ZA (P := Try.prog) h1 [] [(iv 0), (.slice none 0 0)] [] [(iv r13.1), (.slice c3 c4 c5)] rfl rfl (by intro u hu; simp only [List.mem_cons, List.not_mem_nil, or_false] at hu; rcases hu with rfl | rfl <;> rfl)
 refine Zk (w' := h2) (zV rfl rfl (j6 _ _ rfl Sz35)) ?_
 have h0 := h0.mt d5 hO zj
 have a0 := a0.ap d5 hO zj (zl (zl (zm (List.mem_singleton.2 rfl))))
 have a1 := a1.ma d5 hO zj (fun _ e => (zl (zm (e))))
 have a3 := a3.ma d5 hO zj (fun _ e => (zm (e)))
 have hC := hC.st d5 hO zj
 have hO := hO.ext d5
 have a4 : BoxV h2 c6 35 [(iv r13.1), (.slice c3 c4 c5)] := a4
 refine zb (c_sr (za _ (ldw rfl Ag35 a4 Sz35) (mi rfl ?_)))
 have hO := hO.fr1
 obtain ⟨r18, j7, hs⟩ := bind_some hs
 refine zy Bd33 rfl (XB (M := (Less M c8)) (r13.1, r13.2) aK (((Frz.os (Frz.pr Frz.int (Frz.os Frz.int)))).val a3 Less.sub Less.not) hO.less.fut j7) ?_
 rintro _ h3 ⟨a9, b0, b1, b4, rfl, c9, a2, j8⟩
 obtain ⟨h0, a0, a1, a3, a4, hC⟩ := xt6 c9 h0 a0 a1 a3 a4 hC
 have hO := Own.join0 hO c9 j8
 have hO := hO.perm (R := b4 ++ (c8 ++ (([c6]) ++ (a6 ++ (([a5]) ++ ([])))))) (by simp)
 have a2 := a2.free (M' := M) (Free.os (Free.os Free.int))
 refine za (.tuple #[(.slice a9 b0 b1), (.bool r18.2)]) (zt rfl) (za (.slice a9 b0 b1) (zO rfl (by kernel_rfl)) (za (.bool r18.2) (zO rfl (by kernel_rfl)) (ax rfl (ab rfl (zb (zd (zd ?_)))))))
 obtain ⟨s20, j9, hs⟩ := bind_some hs
 refine yO (I := fun a e7 => ∃ (σ : Nat → Value), a = fr 101 (ovl σ [(1, (iv aK)), (2, (pq a5 0)), (4, (.bool false)), (6, (.slice c0 c1 c2)), (7, (.bool r10.2)), (8, (pq c6 0)), (9, (.slice a9 b0 b1)), (10, (.bool r18.2)), (44, (.bool s20))]) ∧ Chg [] h3 e7) ?_ ?_
 ·replace hs := j9
  have hMid := Chg.refl [] h3
  refine ze (ms rfl (ms rfl ?_))
  have hO := hO.fr3.fr1
  obtain ⟨r24, k0, hs⟩ := bind_some hs
  refine zy Bd29 rfl (xV (M := (Less (Less M b4) a6)) r18.1 r10.1 ((((Frz.os (Frz.os Frz.int))).val a2 Less.sub Less.not).sub Less.sub) (((Frz.os (Frz.os Frz.int))).val (a1.sub Less.sub) Less.sub Less.not) (hO.less).less.fut k0) ?_
  rintro _ n1 ⟨rfl, b5⟩
  obtain ⟨h0, a0, a1, a3, a4, a2, hMid, hC⟩ := xt8 b5 h0 a0 a1 a3 a4 a2 hMid hC
  have hO := hO.ext b5
  refine za _ (ZQ rfl) (mb rfl ?_)
  rcases zf hs with ⟨b6, hs⟩ | ⟨b6, hs⟩
  ·skip
   refine pn 40 (cb b6) (pn 40 (cb b6) (pn 40 (cb b6) (za _ (ptb (cb b6) rfl) (zb ?_))))
   cases hs
   exact ⟨_, fr_m 101 rfl, hMid⟩
  refine py 40 (.bool r18.2) (cb b6) (zt rfl) (py 40 (.bool r10.2) (cb b6) (zt rfl) (py 40 (.bool (!(r18.2 == r10.2))) (cb b6) (zay Try.underlying4 rfl rfl) (za _ (pfb (cb b6) rfl) (zb ?_))))
  cases hs
  exact ⟨_, fr_m 101 rfl, hMid⟩
 rintro h4 e7 ⟨σ, rfl, c7⟩
 obtain ⟨h0, a0, a1, a3, a4, a2, hC, hO⟩ := xt8 c7 h0 a0 a1 a3 a4 a2 hC hO
 rcases zf hs with ⟨f6, hs⟩ | ⟨f6, hs⟩
 ·refine zg (cb f6) (c_sr (ab rfl (zb (wp_ret ?_))))
  cases hs
  exact ⟨_, fr_m 101 rfl, hC⟩
 refine zh (cb f6) (wp_skip (zd (zd (Ze [] Mx rfl ?_))))
 have b7 := Chg.drew e7
 generalize World.drew e7 = k1 at b7 ⊢
 obtain ⟨h0, a0, a1, a3, a4, a2, hC, hO⟩ := xt8 b7 h0 a0 a1 a3 a4 a2 hC hO
 have hS := Chg.refl [] k1
 refine xl 0 rfl (ldxw rfl Ag35 a4 Sz35) hS (xl 1 rfl (ldxw rfl Ag24 a0 Sz24) hS (zP (i := 2) (by kernel_rfl) ?_))
 obtain ⟨r35, k2, hs⟩ := bind_some hs
 refine zZ (b := false) rfl  Bd11 rfl (Yy (M := M) (aA.1, aA.2) h0 hO.fut k2) rfl (by rintro _ _ _ ⟨k3, k4, k5, f7, rfl, b2, e8, h5⟩; exact hS.ext b2) ?_
 rintro _ n2 ⟨k3, k4, k5, f7, rfl, b2, e8, h5⟩
 obtain ⟨h0, a0, a1, a3, a4, a2, hC⟩ := xt7 b2 h0 a0 a1 a3 a4 a2 hC
 have hO := Own.join0 hO b2 h5
 have hO := hO.perm (R := f7 ++ (b4 ++ (c8 ++ (([c6]) ++ (a6 ++ (([a5]) ++ ([]))))))) (by simp)
 have hS := hS.ext b2
 refine zP (i := 3) (by kernel_rfl) ?_
 have hO := hO.fr2
 obtain ⟨r38, k6, hs⟩ := bind_some hs
 refine zZ (b := false) rfl  Bd15 rfl (WY (M := (Less (Less M c8) f7)) (r13.1, r13.2) (r35.1, r35.2) ((((Frz.os (Frz.pr Frz.int (Frz.os Frz.int)))).val a3 Less.sub Less.not).sub Less.sub) (((Frz.os (Frz.pr Frz.int (Frz.os Frz.int)))).val (e8.sub Less.sub) Less.sub Less.not) (hO.less).less.fut k6) rfl (by rintro _ _ _ ⟨rfl, a8⟩; exact hS.ext a8) ?_
 rintro _ n3 ⟨rfl, a8⟩
 obtain ⟨h0, a0, a1, a3, a4, a2, e8, hC⟩ := xt8 a8 h0 a0 a1 a3 a4 a2 e8 hC
 obtain ⟨hO, hS⟩ := xt2 a8 hO hS
 refine xq 4 _ rfl (ZQ rfl) hS (Zc (by kernel_rfl) ?_)
 clear hS
 rcases zf hs with ⟨f8, hs⟩ | ⟨f8, hs⟩
 ·refine zg (cb f8) (c_sr (ab rfl (zb ?_)))
  have hO := hO.fr1.drop
  refine wp_ret ?_
  cases hs
  exact ⟨_, fr_m 101 rfl, hC⟩
 refine zh (cb f8) (wp_skip (c_sr (ai rfl (zb ?_))))
 have hO := hO.fr1.drop
 refine c_sr (za _ (ldw rfl Ag35 a4 Sz35) (mi rfl ?_))
 have k7 := hO
 have h6 := Own.lend (F := (c8 ++ ([]))) (R := b4 ++ (([c6]) ++ (a6 ++ (([a5]) ++ ([]))))) (Own.perm (k7) (by simp))
 obtain ⟨r41, k8, hs⟩ := bind_some hs
 refine zy Bd16 rfl (Wd (M := M) (r13.1, r13.2) 1 a3 h6 h6.fut k8) ?_
 rintro _ h7 ⟨k9, rfl, d0, n4, l0⟩
 have hO := hO.perm (R := (c8 ++ ([])) ++ (b4 ++ (([c6]) ++ (a6 ++ (([a5]) ++ ([])))))) (by simp)
 have h0 := h0.mt d0 hO zj
 have a0 := a0.ap d0 hO zj (zl (zl (zl (zm (List.mem_singleton.2 rfl)))))
 have a1 := a1.ma d0 hO zj (fun _ e => (zl (zl (zm (e)))))
 have a4 := a4.ap d0 hO zj (zl (zm (List.mem_singleton.2 rfl)))
 have a2 := a2.ma d0 hO zj (fun _ e => (zm (e)))
 have hC := hC.st d0 hO zj
 have hO := Own.join hO d0 l0
 have hO := hO.perm (R := k9 ++ (b4 ++ (([c6]) ++ (a6 ++ (([a5]) ++ ([])))))) (by simp)
 refine ai rfl (zb ?_)
 have hO := hO.drop.fr1.drop
 refine zd (zd ?_)
 obtain ⟨s42, l1, hs⟩ := bind_some hs
 refine yO (I := fun a h8 => ∃ (σ : Nat → Value), a = fr 101 (ovl σ [(1, (iv aK)), (2, (pq a5 0)), (4, (.bool false)), (6, (.slice c0 c1 c2)), (7, (.bool r10.2)), (9, (.slice a9 b0 b1)), (65, (.bool s42))]) ∧ Chg [] h7 h8) ?_ ?_
 ·replace hs := l1
  have hMid := Chg.refl [] h7
  refine ze (mi rfl (za _ (zx rfl rfl) (mb rfl ?_)))
  rcases zf hs with ⟨b3, hs⟩ | ⟨b3, hs⟩
  ·skip
   refine pn 55 (cb b3) (pn 55 (cb b3) (pn 55 (cb b3) (pn 55 (cb b3) (za _ (ptb (cb b3) rfl) (mb rfl (pn 61 (by rfl) (pn 61 (by rfl) (pn 61 (by rfl) (za _ (ptb (by rfl) rfl) (zb ?_))))))))))
   cases hs
   exact ⟨_, fr_m 101 rfl, hMid⟩
  refine py 55 (.slice a9 b0 b1) (cb b3) (zt rfl) (py 55 (.slice c0 c1 c2) (cb b3) (zt rfl) ?_)
  have hO := hO.fr1.fr1
  obtain ⟨r47, l2, hs⟩ := bind_some hs
  refine xf (tg := 55) (by kernel_rfl) (cb b3) Bd29 rfl (xV (M := (Less (Less M b4) a6)) r18.1 r10.1 ((((Frz.os (Frz.os Frz.int))).val a2 Less.sub Less.not).sub Less.sub) (((Frz.os (Frz.os Frz.int))).val (a1.sub Less.sub) Less.sub Less.not) (hO.less).less.fut l2) ?_
  rintro _ n5 ⟨rfl, d1⟩
  obtain ⟨h0, a0, a1, a2, hMid, hC, hO⟩ := xt7 d1 h0 a0 a1 a2 hMid hC hO
  refine py 55 _ (cb b3) (ZQ rfl) (za _ (pfb (cb b3) rfl) (mb rfl ?_))
  rcases zf hs with ⟨b8, hs⟩ | ⟨b8, hs⟩
  ·skip
   refine pn 61 (cb b8) (pn 61 (cb b8) (pn 61 (cb b8) (za _ (ptb (cb b8) rfl) (zb ?_))))
   cases hs
   exact ⟨_, fr_m 101 rfl, hMid⟩
  refine py 61 (.bool r18.2) (cb b8) (zt rfl) (py 61 (.bool r10.2) (cb b8) (zt rfl) (py 61 (.bool (!(r18.2 == r10.2))) (cb b8) (zay Try.underlying4 rfl rfl) (za _ (pfb (cb b8) rfl) (zb ?_))))
  cases hs
  exact ⟨_, fr_m 101 rfl, hMid⟩
 rintro h4 h8 ⟨σ, rfl, d6⟩
 obtain ⟨h0, a0, a1, a2, hC, hO⟩ := xt6 d6 h0 a0 a1 a2 hC hO
 rcases zf hs with ⟨f9, hs⟩ | ⟨f9, hs⟩
 ·refine zg (cb f9) (c_sr (ab rfl (zb (wp_ret ?_))))
  cases hs
  exact ⟨_, fr_m 101 rfl, hC⟩
 refine zh (cb f9) (wp_skip (c_sr (ai rfl (zb (c_sr (ms rfl (mi rfl ?_)))))))
 have l3 := hO
 have h9 := Own.lend (F := (b4 ++ ([]))) (R := a6 ++ (([a5]) ++ ([]))) (Own.perm (l3) (by simp))
 obtain ⟨r51, l4, hs⟩ := bind_some hs
 refine zy Bd30 rfl (WS (M := M) r18.1 1 a2 h9 h9.fut l4) ?_
 rintro _ n6 ⟨e2, rfl, e3, a7, l5⟩
 have hO := hO.perm (R := (b4 ++ ([])) ++ (a6 ++ (([a5]) ++ ([])))) (by simp)
 have h0 := h0.mt e3 hO zj
 have a0 := a0.ap e3 hO zj (zl (zm (List.mem_singleton.2 rfl)))
 have a1 := a1.ma e3 hO zj (fun _ e => (zm (e)))
 have hC := hC.st e3 hO zj
 have hO := Own.join hO e3 l5
 have hO := hO.perm (R := e2 ++ (a6 ++ (([a5]) ++ ([])))) (by simp)
 refine ai rfl (zb (c_sr (ai rfl (zb (c_sr (ms rfl (mi rfl ?_)))))))
 obtain ⟨r53, l6, hs⟩ := bind_some hs
 refine zy Bd31 rfl (Xx (M := (Less M e2)) r51.2 1 (((Frz.os (Frz.os Frz.int))).val a7 Less.sub Less.not) hO.less.fut l6) ?_
 rintro _ n7 ⟨rfl, d7⟩
 obtain ⟨h0, a0, a1, a7, hC, hO⟩ := xt6 d7 h0 a0 a1 a7 hC hO
 refine ai rfl (zb (zd (c_sr (mi rfl (za _ (zx rfl rfl) (zb ?_))))))
 rcases zf hs with ⟨g0, hs⟩ | ⟨g0, hs⟩
 ·refine zg (cb g0) (c_sr (ab rfl (zb (wp_ret ?_))))
  cases hs
  exact ⟨_, fr_m 101 rfl, hC⟩
 refine zh (cb g0) (wp_skip (zd (c_sr (mi rfl (mi rfl (za (.bool (r53 != r51.1)) (xk rfl rfl) (zb ?_)))))))
 rcases zf hs with ⟨g1, hs⟩ | ⟨g1, hs⟩
 ·refine zg (cb g1) (c_sr (ab rfl (zb (wp_ret ?_))))
  cases hs
  exact ⟨_, fr_m 101 rfl, hC⟩
 refine zh (cb g1) (wp_skip (c_sr (za _ (ldw rfl Ag24 a0 Sz24) ?_)))
 obtain ⟨r57, l7, hs⟩ := bind_some hs
 refine zy Bd11 rfl (Yy (M := M) (aA.1, aA.2) h0 hO.fut l7) ?_
 rintro _ n8 ⟨n9, o0, o1, g2, rfl, d8, g3, l8⟩
 obtain ⟨h0, a0, a1, a7, hC⟩ := xt5 d8 h0 a0 a1 a7 hC
 have hO := Own.join0 hO d8 l8
 have hO := hO.perm (R := g2 ++ (e2 ++ (a6 ++ (([a5]) ++ ([]))))) (by simp)
 refine mi rfl ?_
 obtain ⟨r60, l9, hs⟩ := bind_some hs
 refine zy Bd33 rfl (XB (M := (Less M g2)) (r57.1, r57.2) aK (((Frz.os (Frz.pr Frz.int (Frz.os Frz.int)))).val g3 Less.sub Less.not) hO.less.fut l9) ?_
 rintro _ i0 ⟨e9, f0, f1, i1, rfl, d2, d3, m0⟩
 obtain ⟨h0, a0, a1, a7, g3, hC⟩ := xt6 d2 h0 a0 a1 a7 g3 hC
 have hO := Own.join0 hO d2 m0
 have hO := hO.perm (R := i1 ++ (g2 ++ (e2 ++ (a6 ++ (([a5]) ++ ([])))))) (by simp)
 have d3 := d3.free (M' := M) (Free.os (Free.os Free.int))
 refine za (.tuple #[(.slice e9 f0 f1), (.bool r60.2)]) (zt rfl) (za (.slice e9 f0 f1) (zO rfl (by kernel_rfl)) (za (.bool r60.2) (zO rfl (by kernel_rfl)) (ax rfl (ab rfl (zb ?_)))))
 have hO := hO.fr1.drop.fr3.drop
 refine zd (zd ?_)
 obtain ⟨s62, m1, hs⟩ := bind_some hs
 refine yO (I := fun a i2 => ∃ (σ : Nat → Value), a = fr 101 (ovl σ [(4, (.bool false)), (9, (.slice a9 b0 b1)), (12, (iv r51.1)), (13, (iv r53)), (92, (.bool s62))]) ∧ Chg [] i0 i2) ?_ ?_
 ·replace hs := m1
  have hMid := Chg.refl [] i0
  refine ze (ms rfl (ms rfl ?_))
  have hO := hO.fr2.fr1
  obtain ⟨r66, m2, hs⟩ := bind_some hs
  refine zy Bd29 rfl (xV (M := (Less (Less M i1) a6)) r60.1 r10.1 ((((Frz.os (Frz.os Frz.int))).val d3 Less.sub Less.not).sub Less.sub) (((Frz.os (Frz.os Frz.int))).val (a1.sub Less.sub) Less.sub Less.not) (hO.less).less.fut m2) ?_
  rintro _ o2 ⟨rfl, d9⟩
  obtain ⟨a1, a7, d3, hMid, hC, hO⟩ := xt6 d9 a1 a7 d3 hMid hC hO
  refine za _ (ZQ rfl) (mb rfl ?_)
  rcases zf hs with ⟨b9, hs⟩ | ⟨b9, hs⟩
  ·skip
   refine pn 88 (cb b9) (pn 88 (cb b9) (pn 88 (cb b9) (za _ (ptb (cb b9) rfl) (zb ?_))))
   have hO := hO.drop.drop
   cases hs
   exact ⟨_, fr_m 101 rfl, hMid⟩
  refine py 88 (.bool r60.2) (cb b9) (zt rfl) (py 88 (.bool r10.2) (cb b9) (zt rfl) (py 88 (.bool (!(r60.2 == r10.2))) (cb b9) (zay Try.underlying4 rfl rfl) (za _ (pfb (cb b9) rfl) (zb ?_))))
  have hO := hO.drop.drop
  cases hs
  exact ⟨_, fr_m 101 rfl, hMid⟩
 rintro h4 i2 ⟨σ, rfl, e4⟩
 obtain ⟨a1, a7, d3, hC, hO⟩ := xt5 e4 a1 a7 d3 hC hO
 rcases zf hs with ⟨g4, hs⟩ | ⟨g4, hs⟩
 ·refine zg (cb g4) (c_sr (ab rfl (zb ?_)))
  have hO := hO.drop.fr1.drop
  refine wp_ret ?_
  cases hs
  exact ⟨_, fr_m 101 rfl, hC⟩
 refine zh (cb g4) (wp_skip (c_sr (ai rfl (zb ?_))))
 have hO := hO.drop.fr1.drop
 refine c_sr (ms rfl (mi rfl ?_))
 obtain ⟨r70, m3, hs⟩ := bind_some hs
 refine zy Bd31 rfl (Xx (M := (Less M e2)) r51.2 1 (((Frz.os (Frz.os Frz.int))).val a7 Less.sub Less.not) hO.less.fut m3) ?_
 rintro _ o3 ⟨rfl, g5⟩
 obtain ⟨a7, hC, hO⟩ := xt3 g5 a7 hC hO
 refine ai rfl (zb ?_)
 have hO := hO.drop
 refine zd (c_sr (mi rfl (za _ (zx rfl rfl) (zb ?_))))
 rcases zf hs with ⟨g6, hs⟩ | ⟨g6, hs⟩
 ·refine zg (cb g6) (c_sr (ab rfl (zb (wp_ret ?_))))
  cases hs
  exact ⟨_, fr_m 101 rfl, hC⟩
 refine zh (cb g6) (wp_skip (zd (c_sr (mi rfl (mi rfl (za (.bool (r70 != r51.1)) (xk rfl rfl) (zb ?_)))))))
 rcases zf hs with ⟨g7, hs⟩ | ⟨g7, hs⟩
 ·refine zg (cb g7) (c_sr (ab rfl (zb (wp_ret ?_))))
  cases hs
  exact ⟨_, fr_m 101 rfl, hC⟩
 refine zh (cb g7) (wp_skip (c_sr (ab rfl (zb (wp_ret ?_)))))
 cases hs
 exact ⟨_, fr_m 101 rfl, hC⟩

end Go.Proofs
