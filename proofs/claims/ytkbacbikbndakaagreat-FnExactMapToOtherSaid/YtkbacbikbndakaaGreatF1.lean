/- What functions of the program compute, as plain functions, and that a call gives just that. Conditions: those named in each theorem. -/
import Derived.Test.YtkbacbikbndakaaGreatF0
set_option linter.unusedVariables false
namespace Go.Proofs
open Go.G Go.RowKit
set_option maxRecDepth 100000
set_option maxHeartbeats 4000000

def VQ (M : Nat → Prop) (w0 : World) (r : Bool) (a : Act) (w : World) : Prop :=
  ∃ (σ : Nv) , a = fr 18 (ovl σ [(4, (.bool r))]) ∧ Chg [] w0 w
def yr (s_ : List Int) (t : List Int) : Option (Bool) :=
  (bif ((s_.length : Int) != (t.length : Int)) then some (decide ((s_.length : Int) < (t.length : Int))) else (yV s_ t).bind fun r5 =>
  some r5)
theorem wW {M : Nat → Prop} {w : World} {pa0 : OA} {pn0 pc0 : Nat} {pa1 : OA} {pn1 pc1 : Nat} (s_ : List Int) (t : List Int) (h0 : rl.val M w (sv pa0 pn0 pc0) s_ []) (h1 : rl.val M w (sv pa1 pn1 pc1) t []) (hM : Hm w M) {r : Bool} (hs : yr s_ t = some r) :
    Gives Tryz.prog 100 [(sv pa0 pn0 pc0), (sv pa1 pn1 pc1)] w (fun v w' => v = (.bool r) ∧ Chg [] w w') := by
 refine zr Tryz.func100 rfl Tryz.ntmps100 (nl rfl) ?_
 have hO := Own.start (N := Nw w []) hM Nw.fut
 have hC := Chg.refl [] w
 unfold yr at hs
 refine wp_k (K := (VQ M w r)) (by rintro _ _ ⟨σ, rfl, hrest⟩; exact Za Tryz.results100 (zB rfl) ⟨rfl, hrest⟩) (c_sr (ab rfl (zb (zd (c_sr (ms rfl (za _ (zn Sl34 (zt h0) rfl) (ms rfl (za _ (zn Sl34 (zt h1) rfl) (za (.bool ((s_.length : Int) != (t.length : Int))) (YJ rfl rfl) (zb ?_)))))))))))
 rcases zf hs with ⟨a1, hs⟩ | ⟨a1, hs⟩
 ·refine zh (cb a1) (c_sr (ms rfl (za _ (zn Sl34 (zt h0) rfl) (ms rfl (za _ (zn Sl34 (zt h1) rfl) (za _ (zw rfl rfl) (ab rfl (zb (wp_ret ?_)))))))))
  cases hs
  exact ⟨_, fr_m 18 rfl, hC⟩
 refine zi (cb a1) (wp_skip (c_sr (ms rfl (ms rfl ?_))))
 obtain ⟨r5, a2, hs⟩ := bind_some hs
 refine zy Bd83 rfl (WV (M := M) s_ t h0 h1 hO.fut a2) ?_
 rintro _ a4 ⟨rfl, a0⟩
 obtain ⟨h0, h1, hC, hO⟩ := xt4 a0 h0 h1 hC hO
 refine ab rfl (zb (wp_ret ?_))
 cases hs
 exact ⟨_, fr_m 18 rfl, hC⟩

theorem Bd100 : zF Tryz.prog 100 := zJ Tryz.func100 (by kernel_rfl) rfl

def wJ (M : Nat → Prop) (w0 : World) (qa0 : OA) (qn0 qc0 : Nat) (qf0 : List Nat) (qa1 : OA) (qn1 qc1 : Nat) (qf1 : List Nat) (r : tM) (a : Act) (w : World) : Prop :=
  ∃ (σ : Nv) (rfi0 : List Nat), a = fr 34 (ovl σ []) ∧ Chg (qf0 ++ (qf1 ++ [])) w0 w ∧ (RT.os 34 (RT.os 3 ri)).val M w (sv qa0 qn0 qc0) r rfi0 ∧ Own (Nw w0 (qf0 ++ (qf1 ++ []))) (fun _ => True) w (rfi0 ++ [])
def Zf (out : List (List Int)) (tuples : List (List Int)) (tuple : List Int) (t : List Int) : Option ((List (List Int))) :=
  (zW tuples tuple).bind fun r6 =>
  ((idx out r6.1).bind fun x10 =>
  (bif ((x10.length : Int) == 0) then some true else (idx out r6.1).bind fun x15 =>
  (yr t x15).bind fun r20 =>
  some r20)).bind fun s7 =>
  (bif s7 then (idx out r6.1).bind fun x22 =>
  some (List.set out (Int.toNat r6.1) t) else some out)
theorem xQ {M : Nat → Prop} {w : World} {pa0 : OA} {pn0 pc0 : Nat} {pf0 : List Nat} {pa1 : OA} {pn1 pc1 : Nat} {pa2 : OA} {pn2 pc2 : Nat} {pa3 : OA} {pn3 pc3 : Nat} {pf3 : List Nat} (out : tM) (tuples : tM) (tuple : List Int) (t : List Int) (h0 : (RT.os 34 (RT.os 3 ri)).val M w (sv pa0 pn0 pc0) out pf0) (h1 : rm.val M w (sv pa1 pn1 pc1) tuples []) (h2 : rl.val M w (sv pa2 pn2 pc2) tuple []) (h3 : (RT.os 3 ri).val M w (sv pa3 pn3 pc3) t pf3) (hI : Own (Nw w (pf0 ++ (pf3 ++ []))) M w (pf0 ++ (pf3 ++ []))) (hM : Hm w M) {r : tM} (hs : Zf out tuples tuple t = some r) :
    Gives Tryz.prog 99 [(sv pa0 pn0 pc0), (sv pa1 pn1 pc1), (sv pa2 pn2 pc2), (sv pa3 pn3 pc3)] w (fun v w' => ∃ (rfi0 : List Nat), v = (.tuple #[]) ∧ Chg (pf0 ++ (pf3 ++ [])) w w' ∧ (RT.os 34 (RT.os 3 ri)).val M w' (sv pa0 pn0 pc0) r rfi0 ∧ Own (Nw w (pf0 ++ (pf3 ++ []))) (fun _ => True) w' (rfi0 ++ [])) := by
 refine zr Tryz.func99 rfl Tryz.ntmps99 (nl rfl) ?_
 have hO := hI
 have hC := Chg.refl (pf0 ++ (pf3 ++ [])) w
 unfold Zf at hs
 refine wp_mono (Q := wO (wJ M w pa0 pn0 pc0 pf0 pa3 pn3 pc3 pf3 r)) ?_ (fun e a e6 h => ?_)
 rotate_left
 ·cases e
  case ret =>
   obtain ⟨σ, rfi0, rfl, hrest⟩ := h
   exact vU Tryz.results99  ⟨rfi0, rfl, hrest⟩
  case normal =>
   obtain ⟨σ, rfi0, rfl, hrest⟩ := h
   exact vY Tryz.results99  ⟨rfi0, rfl, hrest⟩
  all_goals exact (h : False).elim
 refine c_sr (ms rfl (ms rfl ?_))
 obtain ⟨r6, b7, hs⟩ := bind_some hs
 refine zy Bd50 rfl (Yq (M := M) tuples tuple h1 h2 hO.fut b7) ?_
 rintro _ b2 ⟨rfl, a2⟩
 obtain ⟨h0, h1, h2, h3, hC, hO⟩ := xt6 a2 h0 h1 h2 h3 hC hO
 refine za (.tuple #[(iv r6.1), (.bool r6.2)]) (zx rfl) (za (iv r6.1) (zH rfl (by kernel_rfl)) (za (.bool r6.2) (zH rfl (by kernel_rfl)) (ai rfl (ab rfl (zb (zd ?_))))))
 obtain ⟨s7, b8, hs⟩ := bind_some hs
 refine yB (I := fun a b3 => ∃ (σ : Nv), a = fr 34 (ovl σ [(0, (sv pa0 pn0 pc0)), (3, (sv pa3 pn3 pc3)), (8, (iv r6.1)), (29, (.bool s7))]) ∧ Chg [] b2 b3) ?_ ?_
 ·replace hs := b8
  have hMid := Chg.refl [] b2
  refine ze (ms rfl (mi rfl ?_))
  obtain ⟨x10, b9, hs⟩ := bind_some hs
  obtain ⟨c0, e7, e8, e9, c1, a6, c2⟩ := zS Sl45 Sz34 h0 b9
  have a7 := ZG (Frz.os Frz.int) a6 c2
  refine za _ (ip c1 rfl rfl) ?_
  obtain ⟨f0, c3, hrow12, a3⟩ := ZR Ag34 Sz34 rfl rfl a7
  obtain ⟨c4, c5, c6, rfl⟩ := yl a3
  refine za (sv c4 c5 c6) (zo rfl (c3 _ (Chg.refl _ _))) (za _ (zn Sl34 (zt a3) rfl) (za (.bool ((x10.length : Int) == 0)) (xV rfl rfl) (mb rfl ?_)))
  rcases zf hs with ⟨a0, hs⟩ | ⟨a0, hs⟩
  ·skip
   refine pn 22 (cb a0) (pn 22 (cb a0) (pn 22 (cb a0) (pn 22 (cb a0) (pn 22 (cb a0) (pn 22 (cb a0) (za _ (ptb (cb a0) rfl) (zb ?_)))))))
   cases hs
   exact ⟨_, fr_m 34 rfl, hMid⟩
  refine py 22 (sv pa3 pn3 pc3) (cb a0) (zx rfl) (py 22 (sv pa0 pn0 pc0) (cb a0) (zx rfl) (py 22 (iv r6.1) (cb a0) (zx rfl) ?_))
  obtain ⟨x15, c7, hs⟩ := bind_some hs
  obtain ⟨c8, f1, f2, f3, c9, a8, d0⟩ := zS Sl45 Sz34 h0 c7
  have a9 := ZG (Frz.os Frz.int) a8 d0
  refine py 22 _ (cb a0) (ip c9 rfl rfl) ?_
  obtain ⟨f4, d1, hrow17, a4⟩ := ZR Ag34 Sz34 rfl rfl a9
  obtain ⟨d2, d3, d4, rfl⟩ := yl a4
  refine py 22 (sv d2 d3 d4) (cb a0) (zo rfl (d1 _ (Chg.refl _ _))) ?_
  have hO := hO.fr1
  obtain ⟨r20, d5, hs⟩ := bind_some hs
  refine yt (tg := 22) (by kernel_rfl) (cb a0) Bd100 rfl (wW (M := (Less (Less M pf3) pf0)) t x15 ((((Frz.os Frz.int)).val h3 Less.sub Less.not).sub Less.sub) (a4.sub (M' := (Less (Less M pf3) pf0)) (fun g h => .inl (by simp only [Less] at h ⊢; simp [h]))) (hO.less).less.fut d5) ?_
  rintro _ f5 ⟨rfl, a1⟩
  obtain ⟨h0, h3, a3, hrow12, a4, hrow17, hMid, a6⟩ := xt8 a1 h0 h3 a3 hrow12 a4 hrow17 hMid a6
  obtain ⟨a7, a8, a9, hC, hO⟩ := xt5 a1 a7 a8 a9 hC hO
  refine za _ (pfb (cb a0) rfl) (zb ?_)
  cases hs
  exact ⟨_, fr_m 34 rfl, hMid⟩
 rintro f6 b3 ⟨σ, rfl, a5⟩
 obtain ⟨h0, h3, hC, hO⟩ := xt4 a5 h0 h3 hC hO
 rcases zf hs with ⟨b0, hs⟩ | ⟨b0, hs⟩
 ·refine zh (cb b0) (ze (ms rfl (mi rfl (ms rfl ?_))))
  obtain ⟨x22, d6, hs⟩ := bind_some hs
  obtain ⟨b4, f7, b5, d7, d8, d9, e0⟩ := zS Sl45 Sz34 h0 d6
  have f8 := ZG (Frz.os Frz.int) d9 e0
  refine za _ (ip d8 rfl rfl) ?_
  have hO := hO.fr1.fr1
  obtain ⟨e1, e2, e3, b6, e4, b1⟩ := yH (P := Tryz.prog) (c' := [(sv pa3 pn3 pc3)]) b5 h0 d7 (fun g hg => hO.inM g (zC h0 g (by simpa using hg))) (ZJ h3) (hO.drop.perm (R := pf3 ++ []) (by simp)).nd (fun g hg hq => hO.apart g hq (by simp only [List.mem_append, List.not_mem_nil, false_or, or_false] at hg ⊢; simp [hg])) (fun _ h => .inl h)
  have e5 : ∀ q ∈ [b4], q ∈ pf0 := fun q hq => zC h0 q (by rw [b5]; exact hq)
  refine Zh (w' := e1) (zY rfl rfl (e3 _ _ rfl Sz34)) ?_
  have hO := hO.fr1.fr1
  have hC := hC.st b6 hO e5
  have hO := (hO.perm (R := pf0 ++ (pf3 ++ [])) (by simp)).eat b6 (fun q hq => (e4 q hq).elim .inl (fun h => .inr (.inl h))) (zu b1) b1.fpl
  refine zb ?_
  cases hs
  exact ⟨_, e2, zG 34 trivial, hC, b1, hO.top⟩
 refine zi (cb b0) (wp_skip ?_)
 cases hs
 have hO := hO.fr1.drop
 exact ⟨_, pf0, zG 34 trivial, hC, h0, hO.top⟩

theorem zaJ : RowT Tryz.prog 116 4 1 [(.bool false)] := ⟨Tryz.underlying116, ⟨_, _, rfl, rfl, rfl, rfl, by decide⟩, rfl, by decide⟩

theorem Bd99 : zF Tryz.prog 99 := zJ Tryz.func99 (by kernel_rfl) rfl

theorem Sl116 : SlT Tryz.prog 116 4 := Tryz.underlying116

theorem Sz4 : SzT Tryz.prog 4 1 := ⟨_, rfl, rfl⟩

theorem Ag4 : AggT Tryz.prog 4 false := fun _ => by kernel_rfl

def yF (M : Nat → Prop) (w0 : World) (r : tM) (a : Act) (w : World) : Prop :=
  ∃ (σ : Nv) (ra0 : OA) (rn0 rc0 : Nat) (rf0 : List Nat), a = fr 215 (ovl σ [(8, (sv ra0 rn0 rc0))]) ∧ Chg [] w0 w ∧ (RT.os 34 (RT.os 3 ri)).val M w (sv ra0 rn0 rc0) r rf0 ∧ Own (Nw w0 []) (fun _ => True) w (rf0 ++ [])
def YZ (a_ : Int × (List (Int × (List Int)))) (k : Int) (gens : List (List Int)) (tuples : List (List Int)) : Option ((List (List Int))) :=
  (mks (tuples.length : Int) ([] : List Int)).bind fun y7 =>
  (mks (tuples.length : Int) (false : Bool)).bind fun y10 =>
  (forC (S := (List (List Int))) (R := (List (List Int))) (fun k122 s120 =>
  (idx gens k122).bind fun x128 =>
  (zW tuples x128).bind fun r133 =>
  (idx s120 r133.1).bind fun x134 =>
  (bif ((x134.length : Int) == 0) then (idx s120 r133.1).bind fun x141 =>
  some (.nx (List.set s120 (Int.toNat r133.1) ([k122]))) else some (.nx s120))) 0 (gens.length : Int) y7).bind fun o124 => after o124 (fun r_ => some r_) (fun s120 =>
  (forC (S := (List (List Int))) (R := (List (List Int))) (fun k173 s171 =>
  (idx a_.2 k173).bind fun x179 =>
  (bif (x179.1 == 0) then (zU (a_.1, a_.2) k173 ([]) k).bind fun r186 =>
  (Zf s171 tuples r186 ([w64 ((-1) - k173)])).bind fun r191 =>
  some (.nx r191) else some (.nx s171))) 0 (a_.2.length : Int) s120).bind fun o175 => after o175 (fun r_ => some r_) (fun s171 =>
  (iter (S := (List Int) × (List (List Int)) × (List Bool)) (R := (List (List Int))) (fun s3253 =>
  (forC (S := Int) (R := (List (List Int))) (fun k3295 s3293 =>
  ((idx s3253.2.2 k3295).bind fun x3303 =>
  (bif (!x3303) then (idx s3253.2.1 k3295).bind fun x3306 =>
  (bif (decide (0 < (x3306.length : Int))) then (bif (decide (s3293 < 0)) then some true else (idx s3253.2.1 k3295).bind fun x3312 =>
  (idx s3253.2.1 s3293).bind fun x3316 =>
  (yr x3312 x3316).bind fun r3321 =>
  some r3321) else some false) else some false)).bind fun s3299 =>
  (bif s3299 then some (.nx k3295) else some (.nx s3293))) 0 (s3253.2.1.length : Int) (-1)).bind fun o3297 => after o3297 (fun r_ => some (.rt r_)) (fun s3293 =>
  (bif (decide (s3293 < 0)) then some (.rt s3253.2.1) else (idx s3253.2.2 s3293).bind fun x3324 =>
  (app s3253.1 ([s3293])).bind fun y3330 =>
  (forC (S := (List (List Int))) (R := (List (List Int))) (fun k4304 s4302 =>
  (idx a_.2 k4304).bind fun x4323 =>
  (idx a_.2 k4304).bind fun x4326 =>
  (mks x4323.1 (0 : Int)).bind fun y4330 =>
  (iter (S := (List Int) × Bool × (List (List Int))) (R := (List (List Int))) (fun s4634 =>
  (bif s4634.2.1 then (ZF s4634.1 (w64 ((y3330.length : Int) - 1))).bind fun r4650 =>
  (bif r4650 then (iter (S := (List Int) × (List (List Int)) × Int) (R := (List (List Int))) (fun s4725 =>
  (bif ((decide (s4725.2.2 < (s4634.1.length : Int))) && (decide ((s4725.1.length : Int) ≤ 60))) then (idx s4634.1 s4725.2.2).bind fun x4746 =>
  (idx y3330 x4746).bind fun x4748 =>
  (idx s4634.2.2 x4748).bind fun x4750 =>
  (app s4725.1 x4750).bind fun y4755 =>
  (idx s4634.1 s4725.2.2).bind fun x4757 =>
  (idx y3330 x4757).bind fun x4759 =>
  (idx tuples x4759).bind fun x4761 =>
  (app s4725.2.1 ([x4761])).bind fun y4768 =>
  some (.nx (y4755, y4768, w64 (s4725.2.2 + 1))) else some (.br (s4725.1, s4725.2.1, s4725.2.2)))) FU ([w64 ((-1) - k4304)], [], 0)).bind fun o4729 => after o4729 (fun r_ => some (.rt r_)) (fun s4725 =>
  (bif (decide ((s4725.1.length : Int) ≤ 60)) then (zU (a_.1, a_.2) k4304 s4725.2.1 k).bind fun r4786 =>
  (Zf s4634.2.2 tuples r4786 s4725.1).bind fun r4789 =>
  some r4789 else some s4634.2.2).bind fun s4780 =>
  (zV s4634.1 (w64 ((w64 ((y3330.length : Int) - 1)) + 1))).bind fun r4791 =>
  some (.nx (r4791.1, r4791.2, s4780))) else (zV s4634.1 (w64 ((w64 ((y3330.length : Int) - 1)) + 1))).bind fun r4794 =>
  some (.nx (r4794.1, r4794.2, s4634.2.2))) else some (.br (s4634.1, s4634.2.1, s4634.2.2)))) FU (y4330, (decide (0 < x4326.1)), s4302)).bind fun o4638 => after o4638 (fun r_ => some (.rt r_)) (fun s4634 =>
  some (.nx s4634.2.2))) 0 (a_.2.length : Int) s3253.2.1).bind fun o4306 => after o4306 (fun r_ => some (.rt r_)) (fun s4302 =>
  some (.nx (y3330, s4302, List.set s3253.2.2 (Int.toNat s3293) true)))))) FU ([], s171, y10)).bind fun o3257 => after o3257 (fun r_ => some r_) (fun _ =>
  none)))
theorem uH {M : Nat → Prop} {w : World} {pa0 : OA} {pn0 pc0 : Nat} {pa1 : OA} {pn1 pc1 : Nat} {pa2 : OA} {pn2 pc2 : Nat} (a_ : tA) (k : Int) (gens : tM) (tuples : tM) (h0 : rp.val M w (sv pa0 pn0 pc0) a_.2 []) (h1 : rm.val M w (sv pa1 pn1 pc1) gens []) (h2 : rm.val M w (sv pa2 pn2 pc2) tuples []) (hM : Hm w M) {r : tM} (hs : YZ a_ k gens tuples = some r) :
    Gives Tryz.prog 79 [(.agg #[(iv a_.1), (sv pa0 pn0 pc0)]), (iv k), (sv pa1 pn1 pc1), (sv pa2 pn2 pc2)] w (fun v w' => ∃ (ra0 : OA) (rn0 rc0 : Nat) (rf0 : List Nat), v = (sv ra0 rn0 rc0) ∧ Chg [] w w' ∧ (RT.os 34 (RT.os 3 ri)).val M w' (sv ra0 rn0 rc0) r rf0 ∧ Own (Nw w []) (fun _ => True) w' (rf0 ++ [])) := by
 refine zr Tryz.func79 rfl Tryz.ntmps79 (nl rfl) ?_
 have hO := Own.start (N := Nw w []) hM Nw.fut
 have hC := Chg.refl [] w
 unfold YZ at hs
 refine wp_k (K := (yF M w r)) (by rintro _ _ ⟨σ, ra0, rn0, rc0, rf0, rfl, hrest⟩; exact Za Tryz.results79 (zB rfl) ⟨ra0, rn0, rc0, rf0, rfl, hrest⟩) (c_sr ?_)
 obtain ⟨t2, a1, J1, C4, n9, a0⟩ := zg w [(iv a_.1), (sv pa0 pn0 pc0)] 30
 refine za (w' := t2) (pq a1 0) (Zj rfl (by rw [J1, C4]; kernel_rfl)) ?_
 obtain ⟨h0, h1, h2, hC⟩ := xt4 n9 h0 h1 h2 hC
 have hO := hO.new1 n9 C4 a0.lt
 refine ax rfl (zb (zd ?_))
 obtain ⟨y7, o0, hs⟩ := bind_some hs
 obtain ⟨y10, o1, hs⟩ := bind_some hs
 refine yB (I := fun a f9 => ∃ (σ : Nv) (a4 : OA) (a8 : OA) (a5 : Nat) (a9 : Nat) (q3 : List Nat) (d3 : List Nat) (b2 : Nat) (a6 : Nat) (b0 : Nat), a = fr 215 (ovl σ [(1, (iv k)), (2, (sv pa1 pn1 pc1)), (3, (sv pa2 pn2 pc2)), (4, (pq a1 0)), (8, (sv none 0 0)), (9, (sv a4 a6 a5)), (10, (sv a8 b0 a9)), (11, (sv (some ⟨b2, 0, none⟩) 0 0))]) ∧ Chg [] w f9 ∧ Own (Nw w []) M f9 ([b2] ++ (d3 ++ (q3 ++ ([a1] ++ [])))) ∧ rp.val M f9 (sv pa0 pn0 pc0) a_.2 [] ∧ rm.val M f9 (sv pa1 pn1 pc1) gens [] ∧ rm.val M f9 (sv pa2 pn2 pc2) tuples [] ∧ BoxV f9 a1 30 [(iv a_.1), (sv pa0 pn0 pc0)] ∧ (RT.os 34 (RT.os 3 ri)).val M f9 (sv a4 a6 a5) y7 q3 ∧ (RT.os 4 RT.bool).val M f9 (sv a8 b0 a9) y10 d3 ∧ (RT.os 3 ri).val M f9 (sv (some ⟨b2, 0, none⟩) 0 0) [] [b2]) ?_ ?_
 ·skip
  refine zQ [] Mx rfl ?_
  have l4 := Chg.drew t2
  generalize World.drew t2 = q4 at l4 ⊢
  obtain ⟨h0, h1, h2, a0, hC, hO⟩ := xt6 l4 h0 h1 h2 a0 hC hO
  have hS := Chg.refl [] q4
  refine xms 0 rfl rfl hS (xq 1 _ rfl (zn Sl45 (zt h2) rfl) hS (xms 3 rfl rfl hS (xq 4 _ rfl (zn Sl45 (zt h2) rfl) hS (x_many [2, 5, 6] (by kernel_rfl) (fun h => nomatch h) (all3 ?_ ?_ ?_)))))
  ·skip
   obtain ⟨q5, q6, q7, t3, C5, J2, k1, J3, e7⟩ := YX (M := M) (w := q4) (r := (RT.os 3 ri)) Rw45 o0 (fun _ _ => (ZJ xJ))
   refine zR (w' := t3) (b := false) (sv q5 q6 q7) rfl (yC rfl rfl J2) rfl (fun _ => hS.ext k1) ?_
   obtain ⟨h0, h1, h2, a0, hC⟩ := xt5 k1 h0 h1 h2 a0 hC
   have hO := hO.new k1 J3 (zu e7) e7.fpl
   have hS := hS.ext k1
   refine xq 7 (sv q5 q6 q7) rfl (zA rfl) hS (wX (i := 5) (j := 6) (by kernel_rfl) ?_ ?_)
   ·skip
    obtain ⟨t4, t5, t6, C6, J4, J5, h8, J6, o2⟩ := YX (M := M) (w := t3) (r := RT.bool) zaJ o1 (fun _ _ => ⟨rfl, rfl⟩)
    refine zR (w' := C6) (b := false) (sv t4 t5 t6) rfl (yC rfl rfl J5) rfl (fun _ => hS.ext h8) ?_
    obtain ⟨h0, h1, h2, a0, e7, hC⟩ := xt6 h8 h0 h1 h2 a0 e7 hC
    have hO := hO.new h8 J6 (zu o2) o2.fpl
    have hS := hS.ext h8
    refine xq 8 (sv t4 t5 t6) rfl (zA rfl) hS (zI (i := 6) (by kernel_rfl) ?_)
    obtain ⟨C7, o3, J7, C8, g0, C9⟩ := zg C6 [] 3
    refine zR (w' := C7) (b := false) (sv (some ⟨o3, 0, none⟩) 0 0) rfl (zz rfl (by rw [J7, C8]; kernel_rfl)) rfl (fun _ => hS.ext g0) ?_
    obtain ⟨h0, h1, h2, a0, e7, o2, hC⟩ := xt7 g0 h0 h1 h2 a0 e7 o2 hC
    have hO := hO.new1 g0 C8 C9.lt
    have t7 := os0 (r := ri) (M := M) C9
    have hS := hS.ext g0
    refine xq 9 (sv (some ⟨o3, 0, none⟩) 0 0) rfl (zA rfl) hS (xe ?_)
    clear hS
    have hO := hO.fr3.fr3.fr3.fr3
    exact ⟨_, q5, t4, q7, t6, C5, J4, o3, q6, t5, fr_m 215 rfl, hC, hO, h0, h1, h2, a0, e7, o2, t7⟩
   ·skip
    obtain ⟨t8, o4, J8, D0, h9, D1⟩ := zg t3 [] 3
    refine zR (w' := t8) (b := false) (sv (some ⟨o4, 0, none⟩) 0 0) rfl (zz rfl (by rw [J8, D0]; kernel_rfl)) rfl (fun _ => hS.ext h9) ?_
    obtain ⟨h0, h1, h2, a0, e7, hC⟩ := xt6 h9 h0 h1 h2 a0 e7 hC
    have hO := hO.new1 h9 D0 D1.lt
    have o5 := os0 (r := ri) (M := M) D1
    have hS := hS.ext h9
    refine zI (i := 5) (by kernel_rfl) ?_
    obtain ⟨t9, u0, u1, J9, K0, K1, g1, K2, u2⟩ := YX (M := M) (w := t8) (r := RT.bool) zaJ o1 (fun _ _ => ⟨rfl, rfl⟩)
    refine zR (w' := J9) (b := false) (sv t9 u0 u1) rfl (yC rfl rfl K1) rfl (fun _ => hS.ext g1) ?_
    obtain ⟨h0, h1, h2, a0, e7, o5, hC⟩ := xt7 g1 h0 h1 h2 a0 e7 o5 hC
    have hO := hO.new g1 K2 (zu u2) u2.fpl
    have hS := hS.ext g1
    refine xq 8 (sv t9 u0 u1) rfl (zA rfl) hS (xq 9 (sv (some ⟨o4, 0, none⟩) 0 0) rfl (zA rfl) hS (xe ?_))
    clear hS
    have hO := hO.fr3.fr3.fr2.fr3
    exact ⟨_, q5, t9, q7, u1, C5, K0, o4, q6, u0, fr_m 215 rfl, hC, hO, h0, h1, h2, a0, e7, u2, o5⟩
  ·skip
   obtain ⟨o6, o7, o8, u3, D2, K3, k2, K4, e8⟩ := YX (M := M) (w := q4) (r := RT.bool) zaJ o1 (fun _ _ => ⟨rfl, rfl⟩)
   refine zR (w' := u3) (b := false) (sv o6 o7 o8) rfl (yC rfl rfl K3) rfl (fun _ => hS.ext k2) ?_
   obtain ⟨h0, h1, h2, a0, hC⟩ := xt5 k2 h0 h1 h2 a0 hC
   have hO := hO.new k2 K4 (zu e8) e8.fpl
   have hS := hS.ext k2
   refine wX (i := 2) (j := 6) (by kernel_rfl) ?_ ?_
   ·skip
    obtain ⟨u4, u5, u6, D3, K5, K6, i0, K7, o9⟩ := YX (M := M) (w := u3) (r := (RT.os 3 ri)) Rw45 o0 (fun _ _ => (ZJ xJ))
    refine zR (w' := D3) (b := false) (sv u4 u5 u6) rfl (yC rfl rfl K6) rfl (fun _ => hS.ext i0) ?_
    obtain ⟨h0, h1, h2, a0, e8, hC⟩ := xt6 i0 h0 h1 h2 a0 e8 hC
    have hO := hO.new i0 K7 (zu o9) o9.fpl
    have hS := hS.ext i0
    refine xq 7 (sv u4 u5 u6) rfl (zA rfl) hS (xq 8 (sv o6 o7 o8) rfl (zA rfl) hS (zI (i := 6) (by kernel_rfl) ?_))
    obtain ⟨D4, p0, K8, D5, g2, D6⟩ := zg D3 [] 3
    refine zR (w' := D4) (b := false) (sv (some ⟨p0, 0, none⟩) 0 0) rfl (zz rfl (by rw [K8, D5]; kernel_rfl)) rfl (fun _ => hS.ext g2) ?_
    obtain ⟨h0, h1, h2, a0, e8, o9, hC⟩ := xt7 g2 h0 h1 h2 a0 e8 o9 hC
    have hO := hO.new1 g2 D5 D6.lt
    have u7 := os0 (r := ri) (M := M) D6
    have hS := hS.ext g2
    refine xq 9 (sv (some ⟨p0, 0, none⟩) 0 0) rfl (zA rfl) hS (xe ?_)
    clear hS
    have hO := hO.fr3.fr2.fr3.fr3
    exact ⟨_, u4, o6, u6, o8, K5, D2, p0, u5, o7, fr_m 215 rfl, hC, hO, h0, h1, h2, a0, o9, e8, u7⟩
   ·skip
    obtain ⟨u9, p1, K9, D7, i1, D8⟩ := zg u3 [] 3
    refine zR (w' := u9) (b := false) (sv (some ⟨p1, 0, none⟩) 0 0) rfl (zz rfl (by rw [K9, D7]; kernel_rfl)) rfl (fun _ => hS.ext i1) ?_
    obtain ⟨h0, h1, h2, a0, e8, hC⟩ := xt6 i1 h0 h1 h2 a0 e8 hC
    have hO := hO.new1 i1 D7 D8.lt
    have p2 := os0 (r := ri) (M := M) D8
    have hS := hS.ext i1
    refine zI (i := 2) (by kernel_rfl) ?_
    obtain ⟨v0, v1, v2, L0, L1, L2, g3, L3, v3⟩ := YX (M := M) (w := u9) (r := (RT.os 3 ri)) Rw45 o0 (fun _ _ => (ZJ xJ))
    refine zR (w' := L0) (b := false) (sv v0 v1 v2) rfl (yC rfl rfl L2) rfl (fun _ => hS.ext g3) ?_
    obtain ⟨h0, h1, h2, a0, e8, p2, hC⟩ := xt7 g3 h0 h1 h2 a0 e8 p2 hC
    have hO := hO.new g3 L3 (zu v3) v3.fpl
    have hS := hS.ext g3
    refine xq 7 (sv v0 v1 v2) rfl (zA rfl) hS (xq 8 (sv o6 o7 o8) rfl (zA rfl) hS (xq 9 (sv (some ⟨p1, 0, none⟩) 0 0) rfl (zA rfl) hS (xe ?_)))
    clear hS
    have hO := hO.fr3.fr1.fr3.fr3
    exact ⟨_, v0, o6, v2, o8, L1, D2, p1, v1, o7, fr_m 215 rfl, hC, hO, h0, h1, h2, a0, v3, e8, p2⟩
  ·skip
   obtain ⟨q8, l5, L4, D9, k3, E0⟩ := zg q4 [] 3
   refine zR (w' := q8) (b := false) (sv (some ⟨l5, 0, none⟩) 0 0) rfl (zz rfl (by rw [L4, D9]; kernel_rfl)) rfl (fun _ => hS.ext k3) ?_
   obtain ⟨h0, h1, h2, a0, hC⟩ := xt5 k3 h0 h1 h2 a0 hC
   have hO := hO.new1 k3 D9 E0.lt
   have e9 := os0 (r := ri) (M := M) E0
   have hS := hS.ext k3
   refine wX (i := 2) (j := 5) (by kernel_rfl) ?_ ?_
   ·skip
    obtain ⟨v4, v5, v6, E1, L5, L6, i2, L7, p3⟩ := YX (M := M) (w := q8) (r := (RT.os 3 ri)) Rw45 o0 (fun _ _ => (ZJ xJ))
    refine zR (w' := E1) (b := false) (sv v4 v5 v6) rfl (yC rfl rfl L6) rfl (fun _ => hS.ext i2) ?_
    obtain ⟨h0, h1, h2, a0, e9, hC⟩ := xt6 i2 h0 h1 h2 a0 e9 hC
    have hO := hO.new i2 L7 (zu p3) p3.fpl
    have hS := hS.ext i2
    refine xq 7 (sv v4 v5 v6) rfl (zA rfl) hS (zI (i := 5) (by kernel_rfl) ?_)
    obtain ⟨v7, v8, v9, L8, L9, M0, g4, M1, w1⟩ := YX (M := M) (w := E1) (r := RT.bool) zaJ o1 (fun _ _ => ⟨rfl, rfl⟩)
    refine zR (w' := L8) (b := false) (sv v7 v8 v9) rfl (yC rfl rfl M0) rfl (fun _ => hS.ext g4) ?_
    obtain ⟨h0, h1, h2, a0, e9, p3, hC⟩ := xt7 g4 h0 h1 h2 a0 e9 p3 hC
    have hO := hO.new g4 M1 (zu w1) w1.fpl
    have hS := hS.ext g4
    refine xq 8 (sv v7 v8 v9) rfl (zA rfl) hS (xq 9 (sv (some ⟨l5, 0, none⟩) 0 0) rfl (zA rfl) hS (xe ?_))
    clear hS
    have hO := hO.fr3.fr2.fr2.fr3
    exact ⟨_, v4, v7, v6, v9, L5, L9, l5, v5, v8, fr_m 215 rfl, hC, hO, h0, h1, h2, a0, p3, w1, e9⟩
   ·skip
    obtain ⟨w2, w3, w4, E2, M2, M3, i3, M4, p4⟩ := YX (M := M) (w := q8) (r := RT.bool) zaJ o1 (fun _ _ => ⟨rfl, rfl⟩)
    refine zR (w' := E2) (b := false) (sv w2 w3 w4) rfl (yC rfl rfl M3) rfl (fun _ => hS.ext i3) ?_
    obtain ⟨h0, h1, h2, a0, e9, hC⟩ := xt6 i3 h0 h1 h2 a0 e9 hC
    have hO := hO.new i3 M4 (zu p4) p4.fpl
    have hS := hS.ext i3
    refine zI (i := 2) (by kernel_rfl) ?_
    obtain ⟨w5, w6, w7, M5, M6, M7, g5, M8, w8⟩ := YX (M := M) (w := E2) (r := (RT.os 3 ri)) Rw45 o0 (fun _ _ => (ZJ xJ))
    refine zR (w' := M5) (b := false) (sv w5 w6 w7) rfl (yC rfl rfl M7) rfl (fun _ => hS.ext g5) ?_
    obtain ⟨h0, h1, h2, a0, e9, p4, hC⟩ := xt7 g5 h0 h1 h2 a0 e9 p4 hC
    have hO := hO.new g5 M8 (zu w8) w8.fpl
    have hS := hS.ext g5
    refine xq 7 (sv w5 w6 w7) rfl (zA rfl) hS (xq 8 (sv w2 w3 w4) rfl (zA rfl) hS (xq 9 (sv (some ⟨l5, 0, none⟩) 0 0) rfl (zA rfl) hS (xe ?_)))
    clear hS
    have hO := hO.fr3.fr1.fr2.fr3
    exact ⟨_, w5, w2, w7, w4, M6, M2, l5, w6, w3, fr_m 215 rfl, hC, hO, h0, h1, h2, a0, w8, p4, e9⟩
 rintro e1 f9 ⟨σ, a4, a8, a5, a9, q3, d3, b2, a6, b0, rfl, hC, hO, h0, h1, h2, a0, M9, b3, b4⟩
 refine zd (c_sr (ai rfl (zb ?_)))
 obtain ⟨o124, N0, hs⟩ := bind_some hs
 refine wp_block (zT (id := 0) (gens.length : Int) (I := fun k122 s120 a c1 => ∃ (σ : Nv) (k4 : List Nat), a = fr 215 (ovl σ [(1, (iv k)), (2, (sv pa1 pn1 pc1)), (3, (sv pa2 pn2 pc2)), (4, (pq a1 0)), (9, (sv a4 a6 a5)), (10, (sv a8 b0 a9)), (11, (sv (some ⟨b2, 0, none⟩) 0 0)), (12, (iv k122))]) ∧ Chg [] w c1 ∧ Own (Nw w []) M c1 ([b2] ++ (d3 ++ (k4 ++ ([a1] ++ [])))) ∧ rp.val M c1 (sv pa0 pn0 pc0) a_.2 [] ∧ rm.val M c1 (sv pa1 pn1 pc1) gens [] ∧ rm.val M c1 (sv pa2 pn2 pc2) tuples [] ∧ BoxV c1 a1 30 [(iv a_.1), (sv pa0 pn0 pc0)] ∧ (RT.os 34 (RT.os 3 ri)).val M c1 (sv a4 a6 a5) s120 k4 ∧ (RT.os 4 RT.bool).val M c1 (sv a8 b0 a9) y10 d3 ∧ (RT.os 3 ri).val M c1 (sv (some ⟨b2, 0, none⟩) 0 0) [] [b2]) (J := fun s120 a c1 => ∃ (σ : Nv) (q9 : List Nat), a = fr 215 (ovl σ [(1, (iv k)), (3, (sv pa2 pn2 pc2)), (4, (pq a1 0)), (9, (sv a4 a6 a5)), (10, (sv a8 b0 a9)), (11, (sv (some ⟨b2, 0, none⟩) 0 0))]) ∧ Chg [] w c1 ∧ Own (Nw w []) M c1 ([b2] ++ (d3 ++ (q9 ++ ([a1] ++ [])))) ∧ rp.val M c1 (sv pa0 pn0 pc0) a_.2 [] ∧ rm.val M c1 (sv pa1 pn1 pc1) gens [] ∧ rm.val M c1 (sv pa2 pn2 pc2) tuples [] ∧ BoxV c1 a1 30 [(iv a_.1), (sv pa0 pn0 pc0)] ∧ (RT.os 34 (RT.os 3 ri)).val M c1 (sv a4 a6 a5) s120 q9 ∧ (RT.os 4 RT.bool).val M c1 (sv a8 b0 a9) y10 d3 ∧ (RT.os 3 ri).val M c1 (sv (some ⟨b2, 0, none⟩) 0 0) [] [b2]) (K := (yF M w)) ?_ ?_ 0 y7 o124 _ _ ?_ N0 ?_)
 ·rintro k122 s120 a c1 ⟨σ, k4, rfl, hC, hO, h0, h1, h2, a0, f0, b3, b4⟩ hlt
  refine zd (c_sr (mi rfl (ms rfl (za _ (zn Sl45 (zt h1) rfl) (za _ (zw rfl rfl) (zb (zi (df hlt) (wp_exit ?_))))))))
  have hO := hO.fr3.fr3.fr3.fr3
  exact ⟨rfl, _, k4, fr_m 215 rfl, hC, hO, h0, h1, h2, a0, f0, b3, b4⟩
 ·rintro k122 s120 o124 a c1 ⟨σ, k4, rfl, hC, hO, h0, h1, h2, a0, f0, b3, b4⟩ hlt hw hs
  refine zd (c_sr (mi rfl (ms rfl (za _ (zn Sl45 (zt h1) rfl) (za _ (zw rfl rfl) (zb (zh (dt hlt) (wp_skip (zd (wp_block (c_sr (ms rfl (ms rfl (mi rfl ?_))))))))))))))
  obtain ⟨x128, N1, hs⟩ := bind_some hs
  obtain ⟨N2, N3, N4, w9⟩ := zK Sl45 Sz34 h1 N1
  refine za _ (ip N4 rfl rfl) ?_
  obtain ⟨a39, N5, r0⟩ := Zc Ag34 Sz34 (fun _ => rfl) w9
  obtain ⟨N6, N7, N8, rfl⟩ := yl r0
  refine za (sv N6 N7 N8) (zo rfl (N5 _ (Chg.refl _ _))) ?_
  obtain ⟨r133, N9, hs⟩ := bind_some hs
  refine zy Bd50 rfl (Yq (M := M) tuples x128 h2 r0 hO.fut N9) ?_
  rintro _ O0 ⟨rfl, f2⟩
  obtain ⟨h0, h1, h2, a0, f0, b3, b4, r0⟩ := xt8 f2 h0 h1 h2 a0 f0 b3 b4 r0
  obtain ⟨w9, hC, hO⟩ := xt3 f2 w9 hC hO
  refine za (.tuple #[(iv r133.1), (.bool r133.2)]) (zx rfl) (za (iv r133.1) (zH rfl (by kernel_rfl)) (za (.bool r133.2) (zH rfl (by kernel_rfl)) (ai rfl (ab rfl (zb (c_sr (ms rfl (mi rfl ?_))))))))
  obtain ⟨x134, O1, hs⟩ := bind_some hs
  obtain ⟨O2, a40, a41, a42, O3, O4, O5⟩ := zS Sl45 Sz34 f0 O1
  have O6 := ZG (Frz.os Frz.int) O4 O5
  refine za _ (ip O3 rfl rfl) ?_
  obtain ⟨a43, O7, hrow136, E3⟩ := ZR Ag34 Sz34 rfl rfl O6
  obtain ⟨O8, O9, P0, rfl⟩ := yl E3
  refine za (sv O8 O9 P0) (zo rfl (O7 _ (Chg.refl _ _))) (za _ (zn Sl34 (zt E3) rfl) (za (.bool ((x134.length : Int) == 0)) (xV rfl rfl) (zb ?_)))
  rcases zf hs with ⟨x0, hs⟩ | ⟨x0, hs⟩
  ·refine zh (cb x0) (ze (ms rfl (mi rfl (mi rfl ?_))))
   obtain ⟨E4, m8, P1, E5, i4, E6⟩ := zg O0 [(iv k122)] 3
   refine za (w' := E4) (sv (some ⟨m8, 0, none⟩) 1 1) (zz rfl (by rw [P1, E5]; kernel_rfl)) ?_
   obtain ⟨h0, h1, h2, a0, f0, b3, b4, hC⟩ := xt8 i4 h0 h1 h2 a0 f0 b3 b4 hC
   have hO := hO.new1 i4 E5 E6.lt
   have x1 := os1 (M := M) E6
   obtain ⟨x141, P2, hs⟩ := bind_some hs
   obtain ⟨E7, a44, E8, P3, P4, P5, P6⟩ := zS Sl45 Sz34 f0 P2
   have a45 := ZG (Frz.os Frz.int) P5 P6
   refine za _ (ip P4 rfl rfl) ?_
   have hO := hO.fr3
   obtain ⟨P7, P8, P9, k5, Q0, x2⟩ := yH (P := Tryz.prog) (c' := [(sv (some ⟨m8, 0, none⟩) 1 1)]) E8 f0 P3 (fun g hg => hO.inM g (zC f0 g (by simpa using hg))) (ZJ x1) (hO.drop.perm (R := [m8] ++ ([b2] ++ (d3 ++ ([a1] ++ [])))) (by simp)).nd (fun g hg hq => hO.apart g hq (by simp only [List.mem_append, List.not_mem_nil, false_or, or_false] at hg ⊢; simp [hg])) (fun _ h => .inl h)
   have l6 : ∀ q ∈ [E7], q ∈ k4 := fun q hq => zC f0 q (by rw [E8]; exact hq)
   refine Zh (w' := P7) (zY rfl rfl (P9 _ _ rfl Sz34)) ?_
   have hO := hO.fr1.fr1
   have h0 := h0.mt k5 hO l6
   have h1 := h1.mt k5 hO l6
   have h2 := h2.mt k5 hO l6
   have a0 := a0.ap k5 hO l6 (zj (zj (zj mS)))
   have b3 := b3.ma k5 hO l6 (fun _ e => (zj (zj (zD (e)))))
   have b4 := b4.ma k5 hO l6 (fun _ e => (zj (zD (e))))
   have hC := hC.st k5 hO l6
   have hO := (hO.perm (R := k4 ++ ([m8] ++ ([b2] ++ (d3 ++ ([a1] ++ []))))) (by simp)).eat k5 (fun q hq => (Q0 q hq).elim .inl (fun h => .inr (.inl h))) (zu x2) x2.fpl
   refine zb (ze (mi rfl (za _ (yad rfl rfl) (ai rfl (zb ?_)))))
   cases hs
   have hO := hO.fr3.fr1.fr3.fr3
   exact ⟨_, P8, zG 215 ⟨rfl, rfl, rfl, rfl, rfl, rfl, rfl, congrArg (Value.int .i64) hw, trivial⟩, hC, hO, h0, h1, h2, a0, x2, b3, b4⟩
  refine zi (cb x0) (wp_skip (ze (mi rfl (za _ (yad rfl rfl) (ai rfl (zb ?_))))))
  cases hs
  have hO := hO.fr3.fr3.fr3.fr3
  exact ⟨_, k4, zG 215 ⟨rfl, rfl, rfl, rfl, rfl, rfl, rfl, congrArg (Value.int .i64) hw, trivial⟩, hC, hO, h0, h1, h2, a0, f0, b3, b4⟩
 ·skip
  have hO := hO.fr3.fr3.fr3.fr3
  exact ⟨_, q3, fr_m 215 rfl, hC, hO, h0, h1, h2, a0, M9, b3, b4⟩
 cases o124 with
 | nx _ => exact True.intro
 | rt r_ =>
  have hs := zq hs
  intro e1 l3 hK
  cases hs
  exact hK
 | br s120 =>
  have hs := zp hs
  rintro e1 c1 ⟨σ, q9, rfl, hC, hO, h0, h1, h2, a0, Q1, b3, b4⟩
  refine zd (c_sr (ai rfl (zb ?_)))
  obtain ⟨o175, Q2, hs⟩ := bind_some hs
  refine wp_block (zT (id := 2) (a_.2.length : Int) (I := fun k173 s171 a c3 => ∃ (σ : Nv) (i5 : List Nat), a = fr 215 (ovl σ [(1, (iv k)), (3, (sv pa2 pn2 pc2)), (4, (pq a1 0)), (9, (sv a4 a6 a5)), (10, (sv a8 b0 a9)), (11, (sv (some ⟨b2, 0, none⟩) 0 0)), (15, (iv k173))]) ∧ Chg [] w c3 ∧ Own (Nw w []) M c3 ([b2] ++ (d3 ++ (i5 ++ ([a1] ++ [])))) ∧ rp.val M c3 (sv pa0 pn0 pc0) a_.2 [] ∧ rm.val M c3 (sv pa2 pn2 pc2) tuples [] ∧ BoxV c3 a1 30 [(iv a_.1), (sv pa0 pn0 pc0)] ∧ (RT.os 34 (RT.os 3 ri)).val M c3 (sv a4 a6 a5) s171 i5 ∧ (RT.os 4 RT.bool).val M c3 (sv a8 b0 a9) y10 d3 ∧ (RT.os 3 ri).val M c3 (sv (some ⟨b2, 0, none⟩) 0 0) [] [b2]) (J := fun s171 a c3 => ∃ (σ : Nv) (r1 : List Nat), a = fr 215 (ovl σ [(1, (iv k)), (3, (sv pa2 pn2 pc2)), (4, (pq a1 0)), (9, (sv a4 a6 a5)), (10, (sv a8 b0 a9)), (11, (sv (some ⟨b2, 0, none⟩) 0 0))]) ∧ Chg [] w c3 ∧ Own (Nw w []) M c3 ([b2] ++ (d3 ++ (r1 ++ ([a1] ++ [])))) ∧ rp.val M c3 (sv pa0 pn0 pc0) a_.2 [] ∧ rm.val M c3 (sv pa2 pn2 pc2) tuples [] ∧ BoxV c3 a1 30 [(iv a_.1), (sv pa0 pn0 pc0)] ∧ (RT.os 34 (RT.os 3 ri)).val M c3 (sv a4 a6 a5) s171 r1 ∧ (RT.os 4 RT.bool).val M c3 (sv a8 b0 a9) y10 d3 ∧ (RT.os 3 ri).val M c3 (sv (some ⟨b2, 0, none⟩) 0 0) [] [b2]) (K := (yF M w)) ?_ ?_ 0 s120 o175 _ _ ?_ Q2 ?_)
  ·rintro k173 s171 a c3 ⟨σ, i5, rfl, hC, hO, h0, h2, a0, g6, b3, b4⟩ hlt
   refine zd (c_sr (mi rfl (za (pq a1 1) (zk rfl Zq) (za _ (ld rfl Ag28 Sz28 a0 rfl) (za _ (zn Sl28 (zt h0) rfl) (za _ (zw rfl rfl) (zb (zi (df hlt) (wp_exit ?_)))))))))
   have hO := hO.fr3.fr3.fr3.fr3
   exact ⟨rfl, _, i5, fr_m 215 rfl, hC, hO, h0, h2, a0, g6, b3, b4⟩
  ·rintro k173 s171 o175 a c3 ⟨σ, i5, rfl, hC, hO, h0, h2, a0, g6, b3, b4⟩ hlt hw hs
   refine zd (c_sr (mi rfl (za (pq a1 1) (zk rfl Zq) (za _ (ld rfl Ag28 Sz28 a0 rfl) (za _ (zn Sl28 (zt h0) rfl) (za _ (zw rfl rfl) (zb (zh (dt hlt) (wp_skip (zd (wp_block (c_sr (za (pq a1 1) (zk rfl Zq) (za _ (ld rfl Ag28 Sz28 a0 rfl) (mi rfl ?_)))))))))))))))
   obtain ⟨x179, Q3, hs⟩ := bind_some hs
   obtain ⟨E9, F0, Q4, Q5⟩ := zK Sl28 Sz77 h0 Q3
   refine za _ (ip Q4 rfl rfl) ?_
   obtain ⟨Q6, _⟩ := Xt Q5
   refine za (.pointer (some ⟨E9, F0 + 0, none⟩)) (zk rfl ZP) (za (iv x179.1) (zo rfl ((zm Ag3 Sz3 Q6) _ (Chg.refl _ _))) (za (.bool (x179.1 == 0)) (xV rfl rfl) (zb ?_)))
   rcases zf hs with ⟨x3, hs⟩ | ⟨x3, hs⟩
   ·refine zh (cb x3) (ze (ms rfl (ms rfl (za _ (ldw rfl Ag30 a0 Sz30) (mi rfl ?_)))))
    obtain ⟨F1, k6, Q7, F2, k7, F3⟩ := zg c3 [] 34
    refine za (w' := F1) (sv (some ⟨k6, 0, none⟩) 0 0) (zz rfl (by rw [Q7, F2]; kernel_rfl)) ?_
    obtain ⟨h0, h2, a0, g6, b3, b4, hC⟩ := xt7 k7 h0 h2 a0 g6 b3 b4 hC
    have hO := hO.new1 k7 F2 F3.lt
    have i6 := os0 (r := (RT.os 3 ri)) (M := M) F3
    refine mi rfl ?_
    obtain ⟨r186, Q8, hs⟩ := bind_some hs
    refine zy Bd51 rfl (YT (M := (Less M [k6])) (a_.1, a_.2) k173 [] k (h0.sub Less.sub) (((Frz.os (Frz.os Frz.int))).val i6 Less.sub Less.not) hO.less.fut Q8) ?_
    rintro _ Q9 ⟨a46, a47, a48, r2, rfl, i7, l7, R0⟩
    obtain ⟨h0, h2, a0, g6, b3, b4, i6, hC⟩ := xt8 i7 h0 h2 a0 g6 b3 b4 i6 hC
    have hO := Own.join0 hO i7 R0
    have hO := hO.perm (R := r2 ++ ([k6] ++ ([b2] ++ (d3 ++ (i5 ++ ([a1] ++ [])))))) (by simp)
    have l7 := l7.free (M' := M) (Free.os Free.int)
    refine mi rfl (za _ (ysu rfl rfl) ?_)
    obtain ⟨F4, p5, R1, F5, g7, F6⟩ := zg Q9 [(iv (w64 ((-1) - k173)))] 3
    refine za (w' := F4) (sv (some ⟨p5, 0, none⟩) 1 1) (zz rfl (by rw [R1, F5]; kernel_rfl)) ?_
    obtain ⟨h0, h2, a0, g6, b3, b4, i6, l7⟩ := xt8 g7 h0 h2 a0 g6 b3 b4 i6 l7
    have hC := hC.ext g7
    have hO := hO.new1 g7 F5 F6.lt
    have x4 := Zn (r := ri) (M := M) (css := [[(iv (w64 ((-1) - k173)))]]) (fps := [([] : List Nat)]) (xs := ([w64 ((-1) - k173)] : List Int)) F6 ⟨⟨rfl, rfl⟩, trivial⟩ (nl rfl) (List.nodup_cons.2 ⟨(fun h => nomatch h), List.nodup_nil⟩)
    have x4 : (RT.os 3 ri).val M F4 (sv (some ⟨p5, 0, none⟩) 1 1) [w64 ((-1) - k173)] [p5] := x4
    have hO := hO.fr1.fr1.fr5
    have x5 := hO
    have x5 := x5.fr2
    have F7 := Own.lend (F := (i5 ++ ([p5] ++ []))) (R := [k6] ++ ([b2] ++ (d3 ++ ([a1] ++ [])))) (Own.perm (x5.less) (by simp))
    obtain ⟨r191, R2, hs⟩ := bind_some hs
    refine zy Bd99 rfl (xQ (M := (Less M r2)) s171 tuples r186 ([w64 ((-1) - k173)]) (g6.sub Less.sub) (h2.sub Less.sub) (((Frz.os Frz.int)).val l7 Less.sub Less.not) (x4.sub Less.sub) F7 F7.fut R2) ?_
    rintro _ a49 ⟨F8, rfl, i9, x6, R3⟩
    have hO := hO.fr2.fr2.fr2.perm (R := (i5 ++ ([p5] ++ [])) ++ (r2 ++ ([k6] ++ ([b2] ++ (d3 ++ ([a1] ++ [])))))) (by simp)
    have h0 := h0.mt i9 hO zl
    have h2 := h2.mt i9 hO zl
    have a0 := a0.ap i9 hO zl (zj (zj (zj (zj mS))))
    have b3 := b3.ma i9 hO zl (fun _ e => (zj (zj (zj (zD (e))))))
    have b4 := b4.ma i9 hO zl (fun _ e => (zj (zj (zD (e)))))
    have i6 := i6.ma i9 hO zl (fun _ e => (zj (zD (e))))
    have l7 := l7.ma i9 hO zl (fun _ e => (zD (e)))
    have hC := hC.st i9 hO zl
    have hO := Own.join hO i9 R3
    have hO := hO.perm (R := F8 ++ (r2 ++ ([k6] ++ ([b2] ++ (d3 ++ ([a1] ++ [])))))) (by simp)
    have x6 := x6.free (M' := M) (Free.os (Free.os Free.int))
    refine zb (ze (mi rfl (za _ (yad rfl rfl) (ai rfl (zb ?_)))))
    cases hs
    have hO := hO.fr1.drop.fr1.drop.fr3.fr1.fr3.fr3
    exact ⟨_, F8, zG 215 ⟨rfl, rfl, rfl, rfl, rfl, rfl, congrArg (Value.int .i64) hw, trivial⟩, hC, hO, h0, h2, a0, x6, b3, b4⟩
   refine zi (cb x3) (wp_skip (ze (mi rfl (za _ (yad rfl rfl) (ai rfl (zb ?_))))))
   cases hs
   have hO := hO.fr3.fr3.fr3.fr3
   exact ⟨_, i5, zG 215 ⟨rfl, rfl, rfl, rfl, rfl, rfl, congrArg (Value.int .i64) hw, trivial⟩, hC, hO, h0, h2, a0, g6, b3, b4⟩
  ·skip
   have hO := hO.fr3.fr3.fr3.fr3
   exact ⟨_, q9, fr_m 215 rfl, hC, hO, h0, h2, a0, Q1, b3, b4⟩
  cases o175 with
  | nx _ => exact True.intro
  | rt r_ =>
   have hs := zq hs
   intro e1 l3 hK
   cases hs
   exact hK
  | br s171 =>
   have hs := zp hs
   rintro e1 c3 ⟨σ, r1, rfl, hC, hO, h0, h2, a0, R4, b3, b4⟩
   obtain ⟨o3257, R5, hs⟩ := bind_some hs
   refine wp_block (Zy (id := 4) (I := fun s3253 a d4 => ∃ (σ : Nv) (b9 : Nat → Prop) (j0 : OA) (j1 : Nat) (j2 : Nat) (l8 : List Nat) (g8 : List Nat) (k8 : List Nat), a = fr 215 (ovl σ [(1, (iv k)), (3, (sv pa2 pn2 pc2)), (4, (pq a1 0)), (9, (sv a4 a6 a5)), (10, (sv a8 b0 a9)), (11, (sv j0 j1 j2))]) ∧ Chg [] w d4 ∧ Own (Nw w []) b9 d4 (l8 ++ (k8 ++ (g8 ++ ([a1] ++ [])))) ∧ Keeps w M b9 ∧ rp.val b9 d4 (sv pa0 pn0 pc0) a_.2 [] ∧ rm.val b9 d4 (sv pa2 pn2 pc2) tuples [] ∧ BoxV d4 a1 30 [(iv a_.1), (sv pa0 pn0 pc0)] ∧ (RT.os 34 (RT.os 3 ri)).val b9 d4 (sv a4 a6 a5) s3253.2.1 g8 ∧ (RT.os 4 RT.bool).val b9 d4 (sv a8 b0 a9) s3253.2.2 k8 ∧ (RT.os 3 ri).val b9 d4 (sv j0 j1 j2) s3253.1 l8) (J := fun s3253 a d4 => ∃ (σ : Nv) (l9 : Nat → Prop) (R6 : OA) (R7 : Nat) (R8 : Nat) (F9 : List Nat) (G0 : List Nat) (G1 : List Nat), a = fr 215 (ovl σ []) ∧ Chg [] w d4 ∧ Own (Nw w []) l9 d4 (F9 ++ (G1 ++ (G0 ++ ([a1] ++ [])))) ∧ Keeps w M l9 ∧ rp.val l9 d4 (sv pa0 pn0 pc0) a_.2 [] ∧ rm.val l9 d4 (sv pa2 pn2 pc2) tuples [] ∧ BoxV d4 a1 30 [(iv a_.1), (sv pa0 pn0 pc0)] ∧ (RT.os 34 (RT.os 3 ri)).val l9 d4 (sv a4 a6 a5) s3253.2.1 G0 ∧ (RT.os 4 RT.bool).val l9 d4 (sv a8 b0 a9) s3253.2.2 G1 ∧ (RT.os 3 ri).val l9 d4 (sv R6 R7 R8) s3253.1 F9) (K := (yF M w)) ?_ FU ([], s171, y10) o3257 _ _ ?_ R5 ?_)
   ·rintro s3253 o3257 a d4 ⟨σ, b9, j0, j1, j2, l8, g8, k8, rfl, hC, hO, hK, h0, h2, a0, b6, d5, d1⟩ hs
    refine wp_block (c_sr (ai rfl (zb (zd (c_sr (ai rfl (zb ?_)))))))
    obtain ⟨o3297, R9, hs⟩ := bind_some hs
    refine wp_block (zT (id := 6) (s3253.2.1.length : Int) (I := fun k3295 s3293 a c0 => ∃ (σ : Nv), a = fr 215 (ovl σ [(1, (iv k)), (3, (sv pa2 pn2 pc2)), (4, (pq a1 0)), (9, (sv a4 a6 a5)), (10, (sv a8 b0 a9)), (11, (sv j0 j1 j2)), (16, (iv s3293)), (17, (iv k3295))]) ∧ Chg [] w c0 ∧ Own (Nw w []) b9 c0 (l8 ++ (k8 ++ (g8 ++ ([a1] ++ [])))) ∧ rp.val b9 c0 (sv pa0 pn0 pc0) a_.2 [] ∧ rm.val b9 c0 (sv pa2 pn2 pc2) tuples [] ∧ BoxV c0 a1 30 [(iv a_.1), (sv pa0 pn0 pc0)] ∧ (RT.os 34 (RT.os 3 ri)).val b9 c0 (sv a4 a6 a5) s3253.2.1 g8 ∧ (RT.os 4 RT.bool).val b9 c0 (sv a8 b0 a9) s3253.2.2 k8 ∧ (RT.os 3 ri).val b9 c0 (sv j0 j1 j2) s3253.1 l8) (J := fun s3293 a c0 => ∃ (σ : Nv), a = fr 215 (ovl σ [(1, (iv k)), (3, (sv pa2 pn2 pc2)), (4, (pq a1 0)), (9, (sv a4 a6 a5)), (10, (sv a8 b0 a9)), (11, (sv j0 j1 j2)), (16, (iv s3293))]) ∧ Chg [] w c0 ∧ Own (Nw w []) b9 c0 (l8 ++ (k8 ++ (g8 ++ ([a1] ++ [])))) ∧ rp.val b9 c0 (sv pa0 pn0 pc0) a_.2 [] ∧ rm.val b9 c0 (sv pa2 pn2 pc2) tuples [] ∧ BoxV c0 a1 30 [(iv a_.1), (sv pa0 pn0 pc0)] ∧ (RT.os 34 (RT.os 3 ri)).val b9 c0 (sv a4 a6 a5) s3253.2.1 g8 ∧ (RT.os 4 RT.bool).val b9 c0 (sv a8 b0 a9) s3253.2.2 k8 ∧ (RT.os 3 ri).val b9 c0 (sv j0 j1 j2) s3253.1 l8) (K := (yF M w)) ?_ ?_ 0 (-1) o3297 _ _ ?_ R9 ?_)
    ·rintro k3295 s3293 a c0 ⟨σ, rfl, hC, hO, h0, h2, a0, b6, d5, d1⟩ hlt
     refine zd (c_sr (mi rfl (ms rfl (za _ (zn Sl45 (ZH b6) rfl) (za _ (zw rfl rfl) (zb (zi (df hlt) (wp_exit ?_))))))))
     have hO := hO.fr3.fr3.fr3.fr3
     exact ⟨rfl, _, fr_m 215 rfl, hC, hO, h0, h2, a0, b6, d5, d1⟩
    ·rintro k3295 s3293 o3297 a c0 ⟨σ, rfl, hC, hO, h0, h2, a0, b6, d5, d1⟩ hlt hw hs
     refine zd (c_sr (mi rfl (ms rfl (za _ (zn Sl45 (ZH b6) rfl) (za _ (zw rfl rfl) (zb (zh (dt hlt) (wp_skip (zd (wp_block (zd ?_)))))))))))
     obtain ⟨s3299, S0, hs⟩ := bind_some hs
     refine yB (I := fun a G2 => ∃ (σ : Nv), a = fr 215 (ovl σ [(1, (iv k)), (3, (sv pa2 pn2 pc2)), (4, (pq a1 0)), (9, (sv a4 a6 a5)), (10, (sv a8 b0 a9)), (11, (sv j0 j1 j2)), (16, (iv s3293)), (17, (iv k3295)), (116, (.bool s3299))]) ∧ Chg [] c0 G2) ?_ ?_
     ·replace hs := S0
      have hMid := Chg.refl [] c0
      refine zQ [] Mx rfl ?_
      have g9 := Chg.drew c0
      generalize World.drew c0 = S1 at g9 ⊢
      obtain ⟨h0, h2, a0, b6, d5, d1, hMid, hC⟩ := xt8 g9 h0 h2 a0 b6 d5 d1 hMid hC
      have hO := hO.ext g9
      have hS := Chg.refl [] S1
      refine xms 0 rfl rfl hS (xmi 1 rfl rfl hS ?_)
      obtain ⟨x3303, S2, hs⟩ := bind_some hs
      obtain ⟨S3, a50, a51, a52, S4, x7, a53⟩ := zS Sl116 Sz4 d5 S2
      refine xq 2 _ rfl (ip S4 rfl rfl) hS (x_l 3 (.bool x3303) rfl (by kernel_rfl) (fun w' hw' => zo rfl ((UI Ag4 Sz4 x7) w' hw')) hS (xq 4 _ rfl (ZA rfl) hS (xmb 5 rfl rfl hS ?_)))
      rcases zf hs with ⟨e2, hs⟩ | ⟨e2, hs⟩
      ·skip
       refine xpy 6 94 (sv a4 a6 a5) rfl (cb e2) (zx rfl) hS (xpy 7 94 (iv k3295) rfl (cb e2) (zx rfl) hS ?_)
       obtain ⟨x3306, S5, hs⟩ := bind_some hs
       obtain ⟨S6, a54, a55, a56, S7, x8, S8⟩ := zS Sl45 Sz34 b6 S5
       have x9 := ZG (Frz.os Frz.int) x8 S8
       refine xpy 8 94 _ rfl (cb e2) (ip S7 rfl rfl) hS ?_
       obtain ⟨a57, S9, hrow3308, r3⟩ := ZR Ag34 Sz34 rfl rfl x9
       obtain ⟨T0, T1, T2, rfl⟩ := yl r3
       refine x_ly 9 (sv T0 T1 T2) rfl (by kernel_rfl) (tg := 94) (by kernel_rfl) (cb e2) (fun w' hw' => zo rfl (S9 w' hw')) hS (xpy 10 94 _ rfl (cb e2) (zn Sl34 (zt r3) rfl) hS (xpy 11 94 _ rfl (cb e2) (YY rfl rfl) hS (xq 12 _ rfl (ptb (cb e2) rfl) hS (xmb 13 rfl rfl hS ?_))))
       rcases zf hs with ⟨e6, hs⟩ | ⟨e6, hs⟩
       ·skip
        refine xpy 14 102 (iv s3293) rfl (cb e6) (zx rfl) hS (xpy 15 102 _ rfl (cb e6) (zw rfl rfl) hS (xpy 16 102 (.bool (decide (s3293 < 0))) rfl (cb e6) (zx rfl) hS ?_))
        rcases zf hs with ⟨c4, hs⟩ | ⟨c4, hs⟩
        ·skip
         refine xpn 17 105 rfl (cb c4) hS (xpn 18 105 rfl (cb c4) hS (xpn 19 105 rfl (cb c4) hS (xpn 20 105 rfl (cb c4) hS (xpn 21 105 rfl (cb c4) hS (xpn 22 105 rfl (cb c4) hS (xpn 23 105 rfl (cb c4) hS (xpn 24 105 rfl (cb c4) hS (xpn 25 105 rfl (cb c4) hS (xpy 26 102 _ rfl (cb e6) (ptb (cb c4) rfl) hS (xq 27 _ rfl (ptb (cb e6) rfl) hS (xe ?_)))))))))))
         clear hS
         cases hs
         exact ⟨_, fr_m 215 rfl, hMid⟩
        refine xpy 17 105 (sv a4 a6 a5) rfl (cb c4) (zx rfl) hS (xpy 18 105 (iv k3295) rfl (cb c4) (zx rfl) hS ?_)
        obtain ⟨x3312, T3, hs⟩ := bind_some hs
        obtain ⟨T4, a58, a59, a60, T5, y0, T6⟩ := zS Sl45 Sz34 b6 T3
        have y1 := ZG (Frz.os Frz.int) y0 T6
        refine xpy 19 105 _ rfl (cb c4) (ip T5 rfl rfl) hS ?_
        obtain ⟨a61, T7, hrow3314, r4⟩ := ZR Ag34 Sz34 rfl rfl y1
        obtain ⟨T8, T9, U0, rfl⟩ := yl r4
        refine x_ly 20 (sv T8 T9 U0) rfl (by kernel_rfl) (tg := 105) (by kernel_rfl) (cb c4) (fun w' hw' => zo rfl (T7 w' hw')) hS (xpy 21 105 (sv a4 a6 a5) rfl (cb c4) (zx rfl) hS (xpy 22 105 (iv s3293) rfl (cb c4) (zx rfl) hS ?_))
        obtain ⟨x3316, U1, hs⟩ := bind_some hs
        obtain ⟨U2, a62, a63, a64, U3, y2, U4⟩ := zS Sl45 Sz34 b6 U1
        have y3 := ZG (Frz.os Frz.int) y2 U4
        refine xpy 23 105 _ rfl (cb c4) (ip U3 rfl rfl) hS ?_
        obtain ⟨a65, U5, hrow3318, r5⟩ := ZR Ag34 Sz34 rfl rfl y3
        obtain ⟨U6, U7, U8, rfl⟩ := yl r5
        refine x_ly 24 (sv U6 U7 U8) rfl (by kernel_rfl) (tg := 105) (by kernel_rfl) (cb c4) (fun w' hw' => zo rfl (U5 w' hw')) hS (zI (i := 25) (by kernel_rfl) ?_)
        have hO := hO.fr2
        obtain ⟨r3321, U9, hs⟩ := bind_some hs
        refine wz (b := false) rfl (tg := 105) (by kernel_rfl) (cb c4) Bd100 rfl (wW (M := (Less b9 g8)) x3312 x3316 r4 r5 hO.less.fut U9) rfl (by rintro _ _ _ ⟨rfl, b7⟩; exact hS.ext b7) ?_
        rintro _ a66 ⟨rfl, b7⟩
        obtain ⟨h0, h2, a0, b6, d5, d1, r3, hrow3308⟩ := xt8 b7 h0 h2 a0 b6 d5 d1 r3 hrow3308
        obtain ⟨r4, hrow3314, r5, hrow3318, hMid, x7, x8, x9⟩ := xt8 b7 r4 hrow3314 r5 hrow3318 hMid x7 x8 x9
        obtain ⟨y0, y1, y2, y3, hC, hO, hS⟩ := xt7 b7 y0 y1 y2 y3 hC hO hS
        refine xpy 26 102 _ rfl (cb e6) (pfb (cb c4) rfl) hS (xq 27 _ rfl (ptb (cb e6) rfl) hS (xe ?_))
        clear hS
        cases hs
        exact ⟨_, fr_m 215 rfl, hMid⟩
       refine xpn 14 102 rfl (cb e6) hS (xpn 15 102 rfl (cb e6) hS (xpn 16 102 rfl (cb e6) hS (xT 17 rfl (by kernel_rfl) (tg := 105) (by kernel_rfl) rfl (fun _ => hS) (xT 18 rfl (by kernel_rfl) (tg := 105) (by kernel_rfl) rfl (fun _ => hS) (xT 19 rfl (by kernel_rfl) (tg := 105) (by kernel_rfl) rfl (fun _ => hS) (xT 20 rfl (by kernel_rfl) (tg := 105) (by kernel_rfl) rfl (fun _ => hS) (xT 21 rfl (by kernel_rfl) (tg := 105) (by kernel_rfl) rfl (fun _ => hS) (xT 22 rfl (by kernel_rfl) (tg := 105) (by kernel_rfl) rfl (fun _ => hS) (xT 23 rfl (by kernel_rfl) (tg := 105) (by kernel_rfl) rfl (fun _ => hS) (xT 24 rfl (by kernel_rfl) (tg := 105) (by kernel_rfl) rfl (fun _ => hS) (xT 25 rfl (by kernel_rfl) (tg := 105) (by kernel_rfl) rfl (fun _ => hS) (xpn 26 102 rfl (cb e6) hS (xq 27 _ rfl (pfb (cb e6) rfl) hS (xe ?_))))))))))))))
       clear hS
       cases hs
       exact ⟨_, fr_m 215 rfl, hMid⟩
      refine xpn 6 94 rfl (cb e2) hS (xpn 7 94 rfl (cb e2) hS (xpn 8 94 rfl (cb e2) hS (xpn 9 94 rfl (cb e2) hS (xpn 10 94 rfl (cb e2) hS (xpn 11 94 rfl (cb e2) hS (xq 12 _ rfl (pfb (cb e2) rfl) hS (xmb 13 rfl rfl hS (xpn 14 102 rfl (by rfl) hS (xpn 15 102 rfl (by rfl) hS (xpn 16 102 rfl (by rfl) hS (xT 17 rfl (by kernel_rfl) (tg := 105) (by kernel_rfl) rfl (fun _ => hS) (xT 18 rfl (by kernel_rfl) (tg := 105) (by kernel_rfl) rfl (fun _ => hS) (xT 19 rfl (by kernel_rfl) (tg := 105) (by kernel_rfl) rfl (fun _ => hS) (xT 20 rfl (by kernel_rfl) (tg := 105) (by kernel_rfl) rfl (fun _ => hS) (xT 21 rfl (by kernel_rfl) (tg := 105) (by kernel_rfl) rfl (fun _ => hS) (xT 22 rfl (by kernel_rfl) (tg := 105) (by kernel_rfl) rfl (fun _ => hS) (xT 23 rfl (by kernel_rfl) (tg := 105) (by kernel_rfl) rfl (fun _ => hS) (xT 24 rfl (by kernel_rfl) (tg := 105) (by kernel_rfl) rfl (fun _ => hS) (xT 25 rfl (by kernel_rfl) (tg := 105) (by kernel_rfl) rfl (fun _ => hS) (xpn 26 102 rfl (by rfl) hS (xq 27 _ rfl (pfb (by rfl) rfl) hS (xe ?_))))))))))))))))))))))
      clear hS
      cases hs
      exact ⟨_, fr_m 215 rfl, hMid⟩
     rintro e1 G2 ⟨σ, rfl, k9⟩
     obtain ⟨h0, h2, a0, b6, d5, d1, hC, hO⟩ := xt8 k9 h0 h2 a0 b6 d5 d1 hC hO
     rcases zf hs with ⟨y4, hs⟩ | ⟨y4, hs⟩
     ·refine zh (cb y4) (ze (mi rfl (ai rfl (zb (ze (mi rfl (za _ (yad rfl rfl) (ai rfl (zb ?_)))))))))
      cases hs
      have hO := hO.fr3.fr3.fr3.fr3
      exact ⟨_, zG 215 ⟨rfl, rfl, rfl, rfl, rfl, rfl, rfl, congrArg (Value.int .i64) hw, trivial⟩, hC, hO, h0, h2, a0, b6, d5, d1⟩
     refine zi (cb y4) (wp_skip (ze (mi rfl (za _ (yad rfl rfl) (ai rfl (zb ?_))))))
     cases hs
     have hO := hO.fr3.fr3.fr3.fr3
     exact ⟨_, zG 215 ⟨rfl, rfl, rfl, rfl, rfl, rfl, rfl, congrArg (Value.int .i64) hw, trivial⟩, hC, hO, h0, h2, a0, b6, d5, d1⟩
    ·skip
     have hO := hO.fr3.fr3.fr3.fr3
     exact ⟨_, fr_m 215 rfl, hC, hO, h0, h2, a0, b6, d5, d1⟩
    cases o3297 with
    | nx _ => exact True.intro
    | rt r_ =>
     have hs := zq hs
     intro e1 l3 hK
     cases hs
     exact hK
    | br s3293 =>
     have hs := zp hs
     rintro e1 c0 ⟨σ, rfl, hC, hO, h0, h2, a0, b6, d5, d1⟩
     refine zd (c_sr (mi rfl (za _ (zw rfl rfl) (zb ?_))))
     rcases zf hs with ⟨y5, hs⟩ | ⟨y5, hs⟩
     ·refine zh (cb y5) (c_sr (ms rfl (ax rfl (zb (wp_ret ?_)))))
      cases hs
      have hO := hO.drop.drop.fr1.drop
      exact ⟨_, a4, a6, a5, g8, fr_m 215 rfl, hC, (b6.free (Free.os (Free.os Free.int))), hO.top⟩
     refine zi (cb y5) (wp_skip (c_sr (ms rfl (mi rfl ?_))))
     obtain ⟨x3324, V0, hs⟩ := bind_some hs
     obtain ⟨G3, a67, G4, V1, V2, a68, a69⟩ := zS Sl116 Sz4 d5 V0
     refine za _ (ip V2 rfl rfl) ?_
     have hO := hO.fr1
     obtain ⟨G5, c5, V3, m0, V4, a2⟩ := yH (P := Tryz.prog) (c' := [(.bool true)]) G4 d5 V1 (fun g hg => hO.inM g (zC d5 g (by simpa using hg))) ⟨rfl, rfl⟩ List.nodup_nil (fun _ h => nomatch h) (fun _ h => .inl h)
     have m9 : ∀ q ∈ [G3], q ∈ k8 := fun q hq => zC d5 q (by rw [G4]; exact hq)
     refine Zh (w' := G5) (zY rfl rfl (V3 _ _ rfl Sz4)) ?_
     have h0 := h0.mt m0 hO m9
     have h2 := h2.mt m0 hO m9
     have a0 := a0.ap m0 hO m9 (zj (zj mS))
     have b6 := b6.ma m0 hO m9 (fun _ e => (zj (zD (e))))
     have d1 := d1.ma m0 hO m9 (fun _ e => (zD (e)))
     have hC := hC.st m0 hO m9
     have hO := hO.grow m0 (fun q hq => .inl ((V4 q hq).resolve_right (fun h => nomatch h))) (zu a2) a2.fpl
     refine zb (c_sr (ms rfl (mi rfl ?_)))
     obtain ⟨G6, y6, V5, G7, l0, G8⟩ := zg G5 [(iv s3293)] 3
     refine za (w' := G6) (sv (some ⟨y6, 0, none⟩) 1 1) (zz rfl (by rw [V5, G7]; kernel_rfl)) ?_
     obtain ⟨h0, h2, a0, b6, a2, d1, hC⟩ := xt7 l0 h0 h2 a0 b6 a2 d1 hC
     have hO := hO.new1 l0 G7 G8.lt
     have y8 := os1 (M := b9) G8
     obtain ⟨y3330, V6, hs⟩ := bind_some hs
     have hO := hO.fr2
     obtain ⟨c6, c7, c8, V7, c9, V8, m1, V9, a3⟩ := ya Rw34 V6 d1 y8 hO.inM (fun g hg hq => hO.apart g hq (zD hg))
     have n0 := zC d1
     refine za (w' := V7) (sv c6 c7 c8) (zN rfl rfl (V8 _)) ?_
     have hO := hO.fr1.fr1
     have h0 := h0.mt m1 hO n0
     have h2 := h2.mt m1 hO n0
     have a0 := a0.ap m1 hO n0 (zj (zj (zj mS)))
     have b6 := b6.ma m1 hO n0 (fun _ e => (zj (zj (zD (e)))))
     have a2 := a2.ma m1 hO n0 (fun _ e => (zj (zD (e))))
     have hC := hC.st m1 hO n0
     have hO := hO.eat m1 V9 (zu a3) a3.fpl
     refine ax rfl (zb (c_sr (ms rfl (za _ (zn Sl34 (ZH a3) rfl) (za _ (ysu rfl rfl) (ai rfl (zb (c_sr (ai rfl (zb ?_))))))))))
     obtain ⟨o4306, W0, hs⟩ := bind_some hs
     refine wp_block (zT (id := 8) (a_.2.length : Int) (I := fun k4304 s4302 a c2 => ∃ (σ : Nv) (f1 : Nat → Prop) (n1 : List Nat), a = fr 215 (ovl σ [(1, (iv k)), (3, (sv pa2 pn2 pc2)), (4, (pq a1 0)), (9, (sv a4 a6 a5)), (10, (sv a8 b0 a9)), (11, (sv c6 c7 c8)), (18, (iv (w64 ((y3330.length : Int) - 1)))), (19, (iv k4304))]) ∧ Chg [] w c2 ∧ Own (Nw w []) f1 c2 (c9 ++ (c5 ++ (n1 ++ ([a1] ++ [])))) ∧ Keeps w M f1 ∧ rp.val f1 c2 (sv pa0 pn0 pc0) a_.2 [] ∧ rm.val f1 c2 (sv pa2 pn2 pc2) tuples [] ∧ BoxV c2 a1 30 [(iv a_.1), (sv pa0 pn0 pc0)] ∧ (RT.os 34 (RT.os 3 ri)).val f1 c2 (sv a4 a6 a5) s4302 n1 ∧ (RT.os 4 RT.bool).val f1 c2 (sv a8 b0 a9) (List.set s3253.2.2 (Int.toNat s3293) true) c5 ∧ (RT.os 3 ri).val f1 c2 (sv c6 c7 c8) y3330 c9) (J := fun s4302 a c2 => ∃ (σ : Nv) (j3 : Nat → Prop) (r6 : List Nat), a = fr 215 (ovl σ [(1, (iv k)), (3, (sv pa2 pn2 pc2)), (4, (pq a1 0)), (9, (sv a4 a6 a5)), (10, (sv a8 b0 a9)), (11, (sv c6 c7 c8))]) ∧ Chg [] w c2 ∧ Own (Nw w []) j3 c2 (c9 ++ (c5 ++ (r6 ++ ([a1] ++ [])))) ∧ Keeps w M j3 ∧ rp.val j3 c2 (sv pa0 pn0 pc0) a_.2 [] ∧ rm.val j3 c2 (sv pa2 pn2 pc2) tuples [] ∧ BoxV c2 a1 30 [(iv a_.1), (sv pa0 pn0 pc0)] ∧ (RT.os 34 (RT.os 3 ri)).val j3 c2 (sv a4 a6 a5) s4302 r6 ∧ (RT.os 4 RT.bool).val j3 c2 (sv a8 b0 a9) (List.set s3253.2.2 (Int.toNat s3293) true) c5 ∧ (RT.os 3 ri).val j3 c2 (sv c6 c7 c8) y3330 c9) (K := (yF M w)) ?_ ?_ 0 s3253.2.1 o4306 _ _ ?_ W0 ?_)
     ·rintro k4304 s4302 a c2 ⟨σ, f1, n1, rfl, hC, hO, hK, h0, h2, a0, m2, a2, a3⟩ hlt
      refine zd (c_sr (mi rfl (za (pq a1 1) (zk rfl Zq) (za _ (ld rfl Ag28 Sz28 a0 rfl) (za _ (zn Sl28 (zt h0) rfl) (za _ (zw rfl rfl) (zb (zi (df hlt) (wp_exit ?_)))))))))
      have hO := hO.fr3.fr3.fr3.fr3
      exact ⟨rfl, _, f1, n1, fr_m 215 rfl, hC, hO, hK, h0, h2, a0, m2, a2, a3⟩
     ·rintro k4304 s4302 o4306 a c2 ⟨σ, f1, n1, rfl, hC, hO, hK, h0, h2, a0, m2, a2, a3⟩ hlt hw hs
      refine zd (c_sr (mi rfl (za (pq a1 1) (zk rfl Zq) (za _ (ld rfl Ag28 Sz28 a0 rfl) (za _ (zn Sl28 (zt h0) rfl) (za _ (zw rfl rfl) (zb (zh (dt hlt) (wp_skip (zd (wp_block (zd (zQ [] Mx rfl ?_)))))))))))))
      have j4 := Chg.drew c2
      generalize World.drew c2 = G9 at j4 ⊢
      obtain ⟨h0, h2, a0, m2, a2, a3, hC, hO⟩ := xt8 j4 h0 h2 a0 m2 a2 a3 hC hO
      have hS := Chg.refl [] G9
      refine xq 0 (pq a1 1) rfl (zk rfl Zq) hS (xl 1 rfl (ldx rfl Ag28 Sz28 a0 rfl) hS (xmi 2 rfl rfl hS ?_))
      obtain ⟨x4323, W1, hs⟩ := bind_some hs
      obtain ⟨H0, H1, W2, y9⟩ := zK Sl28 Sz77 h0 W1
      refine xq 3 _ rfl (ip W2 rfl rfl) hS ?_
      obtain ⟨z0, _⟩ := Xt y9
      refine xq 4 (.pointer (some ⟨H0, H1 + 0, none⟩)) rfl (zk rfl ZP) hS (x_l 5 (iv x4323.1) rfl (by kernel_rfl) (fun w' hw' => zo rfl ((zm Ag3 Sz3 z0) w' hw')) hS (xq 7 (pq a1 1) rfl (zk rfl Zq) hS (xl 8 rfl (ldx rfl Ag28 Sz28 a0 rfl) hS (xmi 9 rfl rfl hS ?_))))
      obtain ⟨x4326, W3, hs⟩ := bind_some hs
      obtain ⟨H2, H3, W4, z1⟩ := zK Sl28 Sz77 h0 W3
      refine xq 10 _ rfl (ip W4 rfl rfl) hS ?_
      obtain ⟨z2, _⟩ := Xt z1
      refine xq 11 (.pointer (some ⟨H2, H3 + 0, none⟩)) rfl (zk rfl ZP) hS (x_l 12 (iv x4326.1) rfl (by kernel_rfl) (fun w' hw' => zo rfl ((zm Ag3 Sz3 z2) w' hw')) hS (xq 13 _ rfl (YY rfl rfl) hS (zI (i := 6) (by kernel_rfl) ?_)))
      obtain ⟨y4330, W5, hs⟩ := bind_some hs
      obtain ⟨z3, z4, z5, W6, W7, W8, e5, W9, z6⟩ := YX (M := f1) (w := G9) (r := ri) Rw34 W5 (fun _ _ => ⟨rfl, rfl⟩)
      refine zR (w' := W6) (b := false) (sv z3 z4 z5) rfl (yC rfl rfl W8) rfl (fun _ => hS.ext e5) ?_
      obtain ⟨h0, h2, a0, m2, a2, a3, y9, z0⟩ := xt8 e5 h0 h2 a0 m2 a2 a3 y9 z0
      obtain ⟨z1, z2, hC⟩ := xt3 e5 z1 z2 hC
      have hO := hO.new e5 W9 (zu z6) z6.fpl
      have hS := hS.ext e5
      refine xq 14 (sv z3 z4 z5) rfl (zA rfl) hS (xq 15 (.bool (decide (0 < x4326.1))) rfl (zA rfl) hS (xe ?_))
      clear hS
      obtain ⟨o4638, X0, hs⟩ := bind_some hs
      refine wp_block (Zy (id := 10) (I := fun s4634 a d0 => ∃ (σ : Nv) (d6 : Nat → Prop) (d7 : OA) (d8 : Nat) (d9 : Nat) (d2 : List Nat) (e3 : List Nat), a = fr 215 (ovl σ [(1, (iv k)), (3, (sv pa2 pn2 pc2)), (4, (pq a1 0)), (9, (sv a4 a6 a5)), (10, (sv a8 b0 a9)), (11, (sv c6 c7 c8)), (18, (iv (w64 ((y3330.length : Int) - 1)))), (19, (iv k4304)), (20, (sv d7 d8 d9)), (21, (.bool s4634.2.1))]) ∧ Chg [] w d0 ∧ Own (Nw w []) d6 d0 (d2 ++ (c9 ++ (c5 ++ (e3 ++ ([a1] ++ []))))) ∧ Keeps w M d6 ∧ rp.val d6 d0 (sv pa0 pn0 pc0) a_.2 [] ∧ rm.val d6 d0 (sv pa2 pn2 pc2) tuples [] ∧ BoxV d0 a1 30 [(iv a_.1), (sv pa0 pn0 pc0)] ∧ (RT.os 34 (RT.os 3 ri)).val d6 d0 (sv a4 a6 a5) s4634.2.2 e3 ∧ (RT.os 4 RT.bool).val d6 d0 (sv a8 b0 a9) (List.set s3253.2.2 (Int.toNat s3293) true) c5 ∧ (RT.os 3 ri).val d6 d0 (sv c6 c7 c8) y3330 c9 ∧ (RT.os 3 ri).val d6 d0 (sv d7 d8 d9) s4634.1 d2) (J := fun s4634 a d0 => ∃ (σ : Nv) (h3 : Nat → Prop) (H4 : OA) (H5 : Nat) (H6 : Nat) (z7 : List Nat) (r7 : List Nat), a = fr 215 (ovl σ [(1, (iv k)), (3, (sv pa2 pn2 pc2)), (4, (pq a1 0)), (9, (sv a4 a6 a5)), (10, (sv a8 b0 a9)), (11, (sv c6 c7 c8)), (18, (iv (w64 ((y3330.length : Int) - 1)))), (19, (iv k4304))]) ∧ Chg [] w d0 ∧ Own (Nw w []) h3 d0 (z7 ++ (c9 ++ (c5 ++ (r7 ++ ([a1] ++ []))))) ∧ Keeps w M h3 ∧ rp.val h3 d0 (sv pa0 pn0 pc0) a_.2 [] ∧ rm.val h3 d0 (sv pa2 pn2 pc2) tuples [] ∧ BoxV d0 a1 30 [(iv a_.1), (sv pa0 pn0 pc0)] ∧ (RT.os 34 (RT.os 3 ri)).val h3 d0 (sv a4 a6 a5) s4634.2.2 r7 ∧ (RT.os 4 RT.bool).val h3 d0 (sv a8 b0 a9) (List.set s3253.2.2 (Int.toNat s3293) true) c5 ∧ (RT.os 3 ri).val h3 d0 (sv c6 c7 c8) y3330 c9 ∧ (RT.os 3 ri).val h3 d0 (sv H4 H5 H6) s4634.1 z7) (K := (yF M w)) ?_ FU (y4330, (decide (0 < x4326.1)), s4302) o4638 _ _ ?_ X0 ?_)
      ·rintro s4634 o4638 a d0 ⟨σ, d6, d7, d8, d9, d2, e3, rfl, hC, hO, hK, h0, h2, a0, b1, a2, a3, a7⟩ hs
       refine zd (c_sr (mb rfl (zb ?_)))
       rcases zf hs with ⟨z8, hs⟩ | ⟨z8, hs⟩
       ·refine zh (cb z8) (wp_skip (wp_block (zd (c_sr (ms rfl (mi rfl ?_))))))
        obtain ⟨r4650, X1, hs⟩ := bind_some hs
        refine zy Bd77 rfl (vK (M := (Less d6 d2)) s4634.1 (w64 ((y3330.length : Int) - 1)) (((Frz.os Frz.int)).val a7 Less.sub Less.not) hO.less.fut X1) ?_
        rintro _ X2 ⟨rfl, j5⟩
        obtain ⟨h0, h2, a0, b1, a2, a3, a7, hC⟩ := xt8 j5 h0 h2 a0 b1 a2 a3 a7 hC
        have hO := hO.ext j5
        refine zb ?_
        rcases zf hs with ⟨z9, hs⟩ | ⟨z9, hs⟩
        ·refine zh (cb z9) (c_sr (mi rfl (za _ (ysu rfl rfl) ?_)))
         obtain ⟨A0, n2, X3, H7, j6, H8⟩ := zg X2 [(iv (w64 ((-1) - k4304)))] 3
         refine za (w' := A0) (sv (some ⟨n2, 0, none⟩) 1 1) (zz rfl (by rw [X3, H7]; kernel_rfl)) ?_
         obtain ⟨h0, h2, a0, b1, a2, a3, a7, hC⟩ := xt8 j6 h0 h2 a0 b1 a2 a3 a7 hC
         have hO := hO.new1 j6 H7 H8.lt
         have m3 := Zn (r := ri) (M := d6) (css := [[(iv (w64 ((-1) - k4304)))]]) (fps := [([] : List Nat)]) (xs := ([w64 ((-1) - k4304)] : List Int)) H8 ⟨⟨rfl, rfl⟩, trivial⟩ (nl rfl) (List.nodup_cons.2 ⟨(fun h => nomatch h), List.nodup_nil⟩)
         have m3 : (RT.os 3 ri).val d6 A0 (sv (some ⟨n2, 0, none⟩) 1 1) [w64 ((-1) - k4304)] [n2] := m3
         obtain ⟨H9, p6, X4, I0, h4, I1⟩ := zg A0 [] 34
         refine za (w' := H9) (sv (some ⟨p6, 0, none⟩) 0 0) (zz rfl (by rw [X4, I0]; kernel_rfl)) ?_
         obtain ⟨h0, h2, a0, b1, a2, a3, a7, m3⟩ := xt8 h4 h0 h2 a0 b1 a2 a3 a7 m3
         have hC := hC.ext h4
         have hO := hO.new1 h4 I0 I1.lt
         have A1 := os0 (r := (RT.os 3 ri)) (M := d6) I1
         refine ax rfl (ax rfl (zb (zd (c_sr (ai rfl (zb ?_))))))
         obtain ⟨l1, X5, m4, X6, hO, X7⟩ := Xh (Frz.os Frz.int) A1 hO
         have h0 := h0.sub m4
         have h2 := h2.sub m4
         have b1 := b1.sub m4
         have a2 := a2.sub m4
         have a3 := a3.sub m4
         have a7 := a7.sub m4
         have m3 := m3.sub m4
         have hK := hK.trans X6
         obtain ⟨o4729, X8, hs⟩ := bind_some hs
         refine wp_block (Zy (id := 12) (I := fun s4725 a b5 => ∃ (σ : Nv) (e0 : Nat → Prop) (m5 : OA) (m6 : Nat) (m7 : Nat) (r8 : List Nat) (n3 : OA) (n4 : Nat) (n5 : Nat) (r9 : List Nat), a = fr 215 (ovl σ [(1, (iv k)), (3, (sv pa2 pn2 pc2)), (4, (pq a1 0)), (9, (sv a4 a6 a5)), (10, (sv a8 b0 a9)), (11, (sv c6 c7 c8)), (18, (iv (w64 ((y3330.length : Int) - 1)))), (19, (iv k4304)), (20, (sv d7 d8 d9)), (21, (.bool s4634.2.1)), (22, (sv m5 m6 m7)), (23, (sv n3 n4 n5)), (24, (iv s4725.2.2))]) ∧ Chg [] w b5 ∧ Own (Nw w []) e0 b5 (r8 ++ (r9 ++ (d2 ++ (c9 ++ (c5 ++ (e3 ++ ([a1] ++ []))))))) ∧ Keeps w M e0 ∧ rp.val e0 b5 (sv pa0 pn0 pc0) a_.2 [] ∧ rm.val e0 b5 (sv pa2 pn2 pc2) tuples [] ∧ BoxV b5 a1 30 [(iv a_.1), (sv pa0 pn0 pc0)] ∧ (RT.os 34 (RT.os 3 ri)).val e0 b5 (sv a4 a6 a5) s4634.2.2 e3 ∧ (RT.os 4 RT.bool).val e0 b5 (sv a8 b0 a9) (List.set s3253.2.2 (Int.toNat s3293) true) c5 ∧ (RT.os 3 ri).val e0 b5 (sv c6 c7 c8) y3330 c9 ∧ (RT.os 3 ri).val e0 b5 (sv d7 d8 d9) s4634.1 d2 ∧ (RT.os 3 ri).val e0 b5 (sv m5 m6 m7) s4725.1 r8 ∧ (RT.os 34 rl).val e0 b5 (sv n3 n4 n5) s4725.2.1 r9) (J := fun s4725 a b5 => ∃ (σ : Nv) (b8 : Nat → Prop) (p7 : OA) (p8 : Nat) (p9 : Nat) (n6 : List Nat) (s0 : OA) (s1 : Nat) (s2 : Nat) (l2 : List Nat), a = fr 215 (ovl σ [(1, (iv k)), (3, (sv pa2 pn2 pc2)), (4, (pq a1 0)), (9, (sv a4 a6 a5)), (10, (sv a8 b0 a9)), (11, (sv c6 c7 c8)), (18, (iv (w64 ((y3330.length : Int) - 1)))), (19, (iv k4304)), (20, (sv d7 d8 d9)), (21, (.bool s4634.2.1)), (22, (sv p7 p8 p9)), (23, (sv s0 s1 s2))]) ∧ Chg [] w b5 ∧ Own (Nw w []) b8 b5 (n6 ++ (l2 ++ (d2 ++ (c9 ++ (c5 ++ (e3 ++ ([a1] ++ []))))))) ∧ Keeps w M b8 ∧ rp.val b8 b5 (sv pa0 pn0 pc0) a_.2 [] ∧ rm.val b8 b5 (sv pa2 pn2 pc2) tuples [] ∧ BoxV b5 a1 30 [(iv a_.1), (sv pa0 pn0 pc0)] ∧ (RT.os 34 (RT.os 3 ri)).val b8 b5 (sv a4 a6 a5) s4634.2.2 e3 ∧ (RT.os 4 RT.bool).val b8 b5 (sv a8 b0 a9) (List.set s3253.2.2 (Int.toNat s3293) true) c5 ∧ (RT.os 3 ri).val b8 b5 (sv c6 c7 c8) y3330 c9 ∧ (RT.os 3 ri).val b8 b5 (sv d7 d8 d9) s4634.1 d2 ∧ (RT.os 3 ri).val b8 b5 (sv p7 p8 p9) s4725.1 n6 ∧ (RT.os 34 rl).val b8 b5 (sv s0 s1 s2) s4725.2.1 l2) (K := (yF M w)) ?_ FU ([w64 ((-1) - k4304)], [], 0) o4729 _ _ ?_ X8 ?_)
         ·rintro s4725 o4729 a b5 ⟨σ, e0, m5, m6, m7, r8, n3, n4, n5, r9, rfl, hC, hO, hK, h0, h2, a0, b1, a2, a3, a7, n7, j7⟩ hs
          refine zd (zd (yB (I := fun a I2 => ∃ (σ : Nv), a = fr 215 (ovl σ [(1, (iv k)), (3, (sv pa2 pn2 pc2)), (4, (pq a1 0)), (9, (sv a4 a6 a5)), (10, (sv a8 b0 a9)), (11, (sv c6 c7 c8)), (18, (iv (w64 ((y3330.length : Int) - 1)))), (19, (iv k4304)), (20, (sv d7 d8 d9)), (21, (.bool s4634.2.1)), (22, (sv m5 m6 m7)), (23, (sv n3 n4 n5)), (24, (iv s4725.2.2)), (168, (.bool ((decide (s4725.2.2 < (s4634.1.length : Int))) && (decide ((s4725.1.length : Int) ≤ 60)))))]) ∧ Chg [] b5 I2) ?_ ?_))
          ·have hMid := Chg.refl [] b5
           refine ze (mi rfl (ms rfl (za _ (zn Sl34 (ZH a7) rfl) (za _ (zw rfl rfl) (mb rfl ?_)))))
           rcases Bool.eq_false_or_eq_true ((decide (s4725.2.2 < (s4634.1.length : Int)))) with f3 | f3
           ·skip
            refine py 164 (sv m5 m6 m7) (cb f3) (zx rfl) (py 164 _ (cb f3) (zn Sl34 (ZH n7) rfl) (py 164 _ (cb f3) (wx rfl rfl) (za (.bool ((decide (s4725.2.2 < (s4634.1.length : Int))) && (decide ((s4725.1.length : Int) ≤ 60)))) (yh (cb f3) (cb (by rw [f3]; rfl))) (zb ?_))))
            exact ⟨_, fr_m 215 rfl, hMid⟩
           refine pn 164 (cb f3) (pn 164 (cb f3) (pn 164 (cb f3) (za (.bool ((decide (s4725.2.2 < (s4634.1.length : Int))) && (decide ((s4725.1.length : Int) ≤ 60)))) (ZU (cb f3) (cb (by rw [f3]; rfl))) (zb ?_))))
           exact ⟨_, fr_m 215 rfl, hMid⟩
          rintro e1 I2 ⟨σ, rfl, f4⟩
          obtain ⟨h0, h2, a0, b1, a2, a3, a7, n7⟩ := xt8 f4 h0 h2 a0 b1 a2 a3 a7 n7
          obtain ⟨j7, hC, hO⟩ := xt3 f4 j7 hC hO
          rcases zf hs with ⟨A2, hs⟩ | ⟨A2, hs⟩
          ·refine zh (cb A2) (wp_skip (zd (wp_block (c_sr (ms rfl (ms rfl (ms rfl (ms rfl (mi rfl ?_)))))))))
           obtain ⟨x4746, X9, hs⟩ := bind_some hs
           obtain ⟨Y0, a70, a71, a72, Y1, Y2, a73⟩ := zS Sl34 Sz3 a7 X9
           refine za _ (ip Y1 rfl rfl) (za (iv x4746) (zo rfl ((zm Ag3 Sz3 Y2) _ (Chg.refl _ _))) ?_)
           obtain ⟨x4748, Y3, hs⟩ := bind_some hs
           obtain ⟨Y4, a74, a75, a76, Y5, Y6, a77⟩ := zS Sl34 Sz3 a3 Y3
           refine za _ (ip Y5 rfl rfl) (za (iv x4748) (zo rfl ((zm Ag3 Sz3 Y6) _ (Chg.refl _ _))) ?_)
           obtain ⟨x4750, Y7, hs⟩ := bind_some hs
           obtain ⟨Y8, a78, a79, a80, Y9, Z0, Z1⟩ := zS Sl45 Sz34 b1 Y7
           have Z2 := ZG (Frz.os Frz.int) Z0 Z1
           refine za _ (ip Y9 rfl rfl) ?_
           obtain ⟨a81, Z3, hrow4752, s3⟩ := ZR Ag34 Sz34 rfl rfl Z2
           obtain ⟨Z4, Z5, Z6, rfl⟩ := yl s3
           refine za (sv Z4 Z5 Z6) (zo rfl (Z3 _ (Chg.refl _ _))) ?_
           obtain ⟨y4755, Z7, hs⟩ := bind_some hs
           have hO := hO.fr5.fr1
           obtain ⟨A3, A4, A5, I3, Z8, Z9, f5, a10, j8⟩ := wi Rw34 Z7 (n7.sub (M' := (Less e0 e3)) Less.sub) s3 (fun g hg => ⟨hO.inM g hg, fun hq => hO.apart g hg (zD hq)⟩)
           have j8 := j8.free (M' := e0) (Free.os Free.int)
           have f6 := zC n7
           refine za (w' := I3) (sv A3 A4 A5) (zN rfl rfl (Z9 _)) ?_
           have h0 := h0.mt f5 hO f6
           have h2 := h2.mt f5 hO f6
           have a0 := a0.ap f5 hO f6 (zj (zj (zj (zj (zj mS)))))
           have b1 := b1.ma f5 hO f6 (fun _ e => (zD (e)))
           have a2 := a2.ma f5 hO f6 (fun _ e => (zj (zj (zj (zj (zD (e)))))))
           have a3 := a3.ma f5 hO f6 (fun _ e => (zj (zj (zj (zD (e))))))
           have a7 := a7.ma f5 hO f6 (fun _ e => (zj (zj (zD (e)))))
           have j7 := j7.ma f5 hO f6 (fun _ e => (zj (zD (e))))
           have s3 := s3.mut f5 (fun g hg => ⟨hO.inM g (f6 g hg), fun e => hO.apart g (f6 g hg) (zD (e))⟩) (fun _ _ h => nomatch h)
           have hC := hC.st f5 hO f6
           have hO := hO.grow f5 a10 (zu j8) j8.fpl
           refine ax rfl (zb (ze (ms rfl (ms rfl (ms rfl (ms rfl (mi rfl ?_)))))))
           obtain ⟨x4757, a11, hs⟩ := bind_some hs
           obtain ⟨a12, a82, a83, a84, a13, A6, a85⟩ := zS Sl34 Sz3 a7 a11
           refine za _ (ip a13 rfl rfl) (za (iv x4757) (zo rfl ((zm Ag3 Sz3 A6) _ (Chg.refl _ _))) ?_)
           obtain ⟨x4759, a14, hs⟩ := bind_some hs
           obtain ⟨a15, a86, a87, a88, a16, A7, a89⟩ := zS Sl34 Sz3 a3 a14
           refine za _ (ip a16 rfl rfl) (za (iv x4759) (zo rfl ((zm Ag3 Sz3 A7) _ (Chg.refl _ _))) ?_)
           obtain ⟨x4761, a17, hs⟩ := bind_some hs
           obtain ⟨a18, a19, a20, A8⟩ := zK Sl45 Sz34 h2 a17
           refine za _ (ip a20 rfl rfl) ?_
           obtain ⟨a90, a21, n8⟩ := Zc Ag34 Sz34 (fun _ => rfl) A8
           obtain ⟨A9, B0, B1, rfl⟩ := yl n8
           refine za (sv A9 B0 B1) (zo rfl (a21 _ (Chg.refl _ _))) ?_
           obtain ⟨I4, B2, a22, I5, e4, I6⟩ := zg I3 [(sv A9 B0 B1)] 34
           refine za (w' := I4) (sv (some ⟨B2, 0, none⟩) 1 1) (zz rfl (by rw [a22, I5]; kernel_rfl)) ?_
           obtain ⟨h0, h2, a0, b1, a2, a3, a7, j7⟩ := xt8 e4 h0 h2 a0 b1 a2 a3 a7 j7
           obtain ⟨j8, n8, A6, A7, A8, hC⟩ := xt6 e4 j8 n8 A6 A7 A8 hC
           have hO := hO.new1 e4 I5 I6.lt
           have B3 := Zn (r := rl) (M := e0) (css := [[(sv A9 B0 B1)]]) (fps := [([] : List Nat)]) (xs := ([x4761] : tM)) I6 ⟨(yI n8), trivial⟩ (nl rfl) (List.nodup_cons.2 ⟨(fun h => nomatch h), List.nodup_nil⟩)
           have B3 : (RT.os 34 rl).val e0 I4 (sv (some ⟨B2, 0, none⟩) 1 1) [x4761] [B2] := B3
           obtain ⟨y4768, a23, hs⟩ := bind_some hs
           have hO := hO.fr3
           obtain ⟨B4, B5, B6, a24, a25, a26, f7, a27, B7⟩ := ya Rw45 a23 j7 B3 hO.inM (fun g hg hq => hO.apart g hq (zD hg))
           have h5 := zC j7
           refine za (w' := a24) (sv B4 B5 B6) (zN rfl rfl (a26 _)) ?_
           have hO := hO.fr1.fr1
           have h0 := h0.mt f7 hO h5
           have h2 := h2.mt f7 hO h5
           have a0 := a0.ap f7 hO h5 (zj (zj (zj (zj (zj (zj mS))))))
           have b1 := b1.ma f7 hO h5 (fun _ e => (zj (zj (zD (e)))))
           have a2 := a2.ma f7 hO h5 (fun _ e => (zj (zj (zj (zj (zj (zD (e))))))))
           have a3 := a3.ma f7 hO h5 (fun _ e => (zj (zj (zj (zj (zD (e)))))))
           have a7 := a7.ma f7 hO h5 (fun _ e => (zj (zj (zj (zD (e))))))
           have j8 := j8.ma f7 hO h5 (fun _ e => (zj (zD (e))))
           have n8 := n8.mt f7 hO h5
           have hC := hC.st f7 hO h5
           have hO := hO.eat f7 a27 (zu B7) B7.fpl
           refine ax rfl (zb (ze (mi rfl (za _ (yad rfl rfl) (ai rfl (zb ?_))))))
           cases hs
           have hO := hO.fr6.fr3.fr6.fr6.fr6.fr5.fr6
           exact ⟨_, e0, A3, A4, A5, Z8, B4, B5, B6, a25, fr_m 215 rfl, hC, hO, hK, h0, h2, a0, b1, a2, a3, a7, j8, B7⟩
          refine zi (cb A2) (wp_exit ?_)
          cases hs
          have hO := hO.fr6.fr6.fr6.fr6.fr6.fr6.fr6
          exact ⟨rfl, _, e0, m5, m6, m7, r8, n3, n4, n5, r9, fr_m 215 rfl, hC, hO, hK, h0, h2, a0, b1, a2, a3, a7, n7, j7⟩
         ·skip
          have hO := hO.fr6.fr6.fr6.fr6.fr6.fr5.fr6
          exact ⟨_, l1, (some ⟨n2, 0, none⟩), 1, 1, [n2], (some ⟨p6, 0, none⟩), 0, 0, X5, fr_m 215 rfl, hC, hO, hK, h0, h2, a0, b1, a2, a3, a7, m3, X7⟩
         cases o4729 with
         | nx _ => exact True.intro
         | rt r_ =>
          have hs := zq hs
          intro e1 l3 hK
          cases hs
          exact hK
         | br s4725 =>
          have hs := zp hs
          rintro e1 b5 ⟨σ, b8, p7, p8, p9, n6, s0, s1, s2, l2, rfl, hC, hO, hK, h0, h2, a0, b1, a2, a3, a7, s4, q0⟩
          refine c_sr (ms rfl (za _ (zn Sl34 (ZH s4) rfl) (za _ (wx rfl rfl) (zb ?_))))
          obtain ⟨s4780, a28, hs⟩ := bind_some hs
          refine yB (I := fun a h6 => ∃ (σ : Nv) (q1 : List Nat), a = fr 215 (ovl σ [(1, (iv k)), (3, (sv pa2 pn2 pc2)), (4, (pq a1 0)), (9, (sv a4 a6 a5)), (10, (sv a8 b0 a9)), (11, (sv c6 c7 c8)), (18, (iv (w64 ((y3330.length : Int) - 1)))), (19, (iv k4304)), (20, (sv d7 d8 d9)), (21, (.bool s4634.2.1))]) ∧ Chg [] w h6 ∧ Own (Nw w []) b8 h6 (d2 ++ (c9 ++ (c5 ++ (q1 ++ ([a1] ++ []))))) ∧ rp.val b8 h6 (sv pa0 pn0 pc0) a_.2 [] ∧ rm.val b8 h6 (sv pa2 pn2 pc2) tuples [] ∧ BoxV h6 a1 30 [(iv a_.1), (sv pa0 pn0 pc0)] ∧ (RT.os 34 (RT.os 3 ri)).val b8 h6 (sv a4 a6 a5) s4780 q1 ∧ (RT.os 4 RT.bool).val b8 h6 (sv a8 b0 a9) (List.set s3253.2.2 (Int.toNat s3293) true) c5 ∧ (RT.os 3 ri).val b8 h6 (sv c6 c7 c8) y3330 c9 ∧ (RT.os 3 ri).val b8 h6 (sv d7 d8 d9) s4634.1 d2) ?_ ?_
          ·replace hs := a28
           rcases zf hs with ⟨B8, hs⟩ | ⟨B8, hs⟩
           ·refine zh (cb B8) (ze (ms rfl (ms rfl (za _ (ldw rfl Ag30 a0 Sz30) (mi rfl (ms rfl (mi rfl ?_)))))))
            have hO := hO.fr1
            obtain ⟨r4786, a29, hs⟩ := bind_some hs
            refine zy Bd51 rfl (YT (M := (Less b8 l2)) (a_.1, a_.2) k4304 s4725.2.1 k (h0.sub Less.sub) (((Frz.os (Frz.rs Frz.int))).val q0 Less.sub Less.not) hO.less.fut a29) ?_
            rintro _ a91 ⟨a92, a93, a94, s5, rfl, f8, q2, a30⟩
            obtain ⟨h0, h2, a0, b1, a2, a3, a7, s4⟩ := xt8 f8 h0 h2 a0 b1 a2 a3 a7 s4
            obtain ⟨q0, hC⟩ := xt2 f8 q0 hC
            have hO := Own.join0 hO f8 a30
            have hO := hO.perm (R := s5 ++ (l2 ++ (n6 ++ (d2 ++ (c9 ++ (c5 ++ (e3 ++ ([a1] ++ [])))))))) (by simp)
            have q2 := q2.free (M' := b8) (Free.os Free.int)
            refine ms rfl ?_
            have hO := hO.fr2.fr6
            have B9 := hO
            have B9 := B9.fr2
            have I7 := Own.lend (F := (e3 ++ (n6 ++ []))) (R := l2 ++ (d2 ++ (c9 ++ (c5 ++ ([a1] ++ []))))) (Own.perm (B9.less) (by simp))
            obtain ⟨r4789, a31, hs⟩ := bind_some hs
            refine zy Bd99 rfl (xQ (M := (Less b8 s5)) s4634.2.2 tuples r4786 s4725.1 (b1.sub Less.sub) (h2.sub Less.sub) (((Frz.os Frz.int)).val q2 Less.sub Less.not) (s4.sub Less.sub) I7 I7.fut a31) ?_
            rintro _ a95 ⟨I8, rfl, h7, C0, a32⟩
            have hO := hO.fr2.fr2.fr2.perm (R := (e3 ++ (n6 ++ [])) ++ (s5 ++ (l2 ++ (d2 ++ (c9 ++ (c5 ++ ([a1] ++ []))))))) (by simp)
            have h0 := h0.mt h7 hO zl
            have h2 := h2.mt h7 hO zl
            have a0 := a0.ap h7 hO zl (zj (zj (zj (zj (zj mS)))))
            have a2 := a2.ma h7 hO zl (fun _ e => (zj (zj (zj (zj (zD (e)))))))
            have a3 := a3.ma h7 hO zl (fun _ e => (zj (zj (zj (zD (e))))))
            have a7 := a7.ma h7 hO zl (fun _ e => (zj (zj (zD (e)))))
            have q0 := q0.ma h7 hO zl (fun _ e => (zj (zD (e))))
            have q2 := q2.ma h7 hO zl (fun _ e => (zD (e)))
            have hC := hC.st h7 hO zl
            have hO := Own.join hO h7 a32
            have hO := hO.perm (R := I8 ++ (s5 ++ (l2 ++ (d2 ++ (c9 ++ (c5 ++ ([a1] ++ []))))))) (by simp)
            have C0 := C0.free (M' := b8) (Free.os (Free.os Free.int))
            refine zb ?_
            cases hs
            have hO := hO.fr1.drop.fr1.drop.fr4.fr1.fr4.fr4.fr4
            exact ⟨_, I8, fr_m 215 rfl, hC, hO, h0, h2, a0, C0, a2, a3, a7⟩
           refine zi (cb B8) (wp_skip ?_)
           cases hs
           have hO := hO.drop.drop.fr4.fr4.fr4.fr4.fr4
           exact ⟨_, e3, fr_m 215 rfl, hC, hO, h0, h2, a0, b1, a2, a3, a7⟩
          rintro e1 h6 ⟨σ, q1, rfl, hC, hO, h0, h2, a0, C1, a2, a3, a7⟩
          refine ze (ms rfl (mi rfl (za _ (yad rfl rfl) ?_)))
          obtain ⟨r4791, a33, hs⟩ := bind_some hs
          refine zy Bd55 rfl (Xe (M := (Less b8 d2)) s4634.1 (w64 ((w64 ((y3330.length : Int) - 1)) + 1)) (((Frz.os Frz.int)).val a7 Less.sub Less.not) hO.less.fut a33) ?_
          rintro _ a96 ⟨s6, s7, s8, I9, rfl, j9, C2, a34⟩
          obtain ⟨h0, h2, a0, C1, a2, a3, a7, hC⟩ := xt8 j9 h0 h2 a0 C1 a2 a3 a7 hC
          have hO := Own.join0 hO j9 a34
          have hO := hO.perm (R := I9 ++ (d2 ++ (c9 ++ (c5 ++ (q1 ++ ([a1] ++ [])))))) (by simp)
          have C2 := C2.free (M' := b8) (Free.os Free.int)
          refine za (.tuple #[(sv s6 s7 s8), (.bool r4791.2)]) (zx rfl) (za (sv s6 s7 s8) (zH rfl (by kernel_rfl)) (za (.bool r4791.2) (zH rfl (by kernel_rfl)) (ax rfl (ab rfl (zb ?_)))))
          cases hs
          have hO := hO.fr1.drop.fr4.fr4.fr4.fr4.fr4
          exact ⟨_, b8, s6, s7, s8, I9, q1, fr_m 215 rfl, hC, hO, hK, h0, h2, a0, C1, a2, a3, C2⟩
        refine zi (cb z9) (wp_skip (ze (ms rfl (mi rfl (za _ (yad rfl rfl) ?_)))))
        obtain ⟨r4794, a35, hs⟩ := bind_some hs
        refine zy Bd55 rfl (Xe (M := (Less d6 d2)) s4634.1 (w64 ((w64 ((y3330.length : Int) - 1)) + 1)) (((Frz.os Frz.int)).val a7 Less.sub Less.not) hO.less.fut a35) ?_
        rintro _ a97 ⟨s9, t0, t1, J0, rfl, k0, C3, a36⟩
        obtain ⟨h0, h2, a0, b1, a2, a3, a7, hC⟩ := xt8 k0 h0 h2 a0 b1 a2 a3 a7 hC
        have hO := Own.join0 hO k0 a36
        have hO := hO.perm (R := J0 ++ (d2 ++ (c9 ++ (c5 ++ (e3 ++ ([a1] ++ [])))))) (by simp)
        have C3 := C3.free (M' := d6) (Free.os Free.int)
        refine za (.tuple #[(sv s9 t0 t1), (.bool r4794.2)]) (zx rfl) (za (sv s9 t0 t1) (zH rfl (by kernel_rfl)) (za (.bool r4794.2) (zH rfl (by kernel_rfl)) (ax rfl (ab rfl (zb ?_)))))
        cases hs
        have hO := hO.fr1.drop.fr4.fr4.fr4.fr4.fr4
        exact ⟨_, d6, s9, t0, t1, J0, e3, fr_m 215 rfl, hC, hO, hK, h0, h2, a0, b1, a2, a3, C3⟩
       refine zi (cb z8) (wp_exit ?_)
       cases hs
       have hO := hO.fr4.fr4.fr4.fr4.fr4
       exact ⟨rfl, _, d6, d7, d8, d9, d2, e3, fr_m 215 rfl, hC, hO, hK, h0, h2, a0, b1, a2, a3, a7⟩
      ·skip
       have hO := hO.fr4.fr4.fr4.fr4.fr4
       exact ⟨_, f1, z3, z4, z5, W7, n1, fr_m 215 rfl, hC, hO, hK, h0, h2, a0, m2, a2, a3, z6⟩
      cases o4638 with
      | nx _ => exact True.intro
      | rt r_ =>
       have hs := zq hs
       intro e1 l3 hK
       cases hs
       exact hK
      | br s4634 =>
       have hs := zp hs
       rintro e1 d0 ⟨σ, h3, H4, H5, H6, z7, r7, rfl, hC, hO, hK, h0, h2, a0, a37, a2, a3, a98⟩
       refine ze (mi rfl (za _ (yad rfl rfl) (ai rfl (zb ?_))))
       cases hs
       have hO := hO.drop.fr3.fr3.fr3.fr3
       exact ⟨_, h3, r7, zG 215 ⟨rfl, rfl, rfl, rfl, rfl, rfl, rfl, congrArg (Value.int .i64) hw, trivial⟩, hC, hO, hK, h0, h2, a0, a37, a2, a3⟩
     ·skip
      have hO := hO.fr3.fr3.fr3.fr3
      exact ⟨_, b9, g8, fr_m 215 rfl, hC, hO, hK, h0, h2, a0, b6, a2, a3⟩
     cases o4306 with
     | nx _ => exact True.intro
     | rt r_ =>
      have hs := zq hs
      intro e1 l3 hK
      cases hs
      exact hK
     | br s4302 =>
      have hs := zp hs
      rintro e1 c2 ⟨σ, j3, r6, rfl, hC, hO, hK, h0, h2, a0, a38, a2, a3⟩
      cases hs
      have hO := hO.fr3.fr3.fr3.fr3
      exact ⟨_, j3, c6, c7, c8, c9, r6, c5, fr_m 215 rfl, hC, hO, hK, h0, h2, a0, a38, a2, a3⟩
   ·skip
    have hO := hO.fr3.fr3.fr3.fr3
    exact ⟨_, M, (some ⟨b2, 0, none⟩), 0, 0, [b2], r1, d3, fr_m 215 rfl, hC, hO, Keeps.refl, h0, h2, a0, R4, b3, b4⟩
   cases o3257 with
   | nx _ => exact True.intro
   | rt r_ =>
    have hs := zq hs
    intro e1 l3 hK
    cases hs
    exact hK
   | br s3253 =>
    have hs := zp hs
    cases hs

theorem Bd78 : zF Tryz.prog 78 := zJ Tryz.func78 (by kernel_rfl) rfl

theorem Bd79 : zF Tryz.prog 79 := zJ Tryz.func79 (by kernel_rfl) rfl

def wQ (M : Nat → Prop) (w0 : World) (r : tM × Bool) (a : Act) (w : World) : Prop :=
  ∃ (σ : Nv) (ra0 : OA) (rn0 rc0 : Nat) (rf0 : List Nat), a = fr 60 (ovl σ [(6, (sv ra0 rn0 rc0)), (7, (.bool r.2))]) ∧ Chg [] w0 w ∧ (RT.os 34 (RT.os 3 ri)).val M w (sv ra0 rn0 rc0) r.1 rf0 ∧ Own (Nw w0 []) (fun _ => True) w (rf0 ++ [])
def yN (a_ : Int × (List (Int × (List Int)))) (k : Int) (gens : List (List Int)) : Option ((List (List Int)) × Bool) :=
  ((Yt (a_.1, a_.2) k gens).bind fun r8 =>
  (bif (!r8) then some true else some (decide (6 < (gens.length : Int))))).bind fun s4 =>
  (bif s4 then some ([], false) else (Zb (a_.1, a_.2) k gens).bind fun r14 =>
  (bif (!r14.2) then some ([], false) else (YZ (a_.1, a_.2) k gens r14.1).bind fun r20 =>
  (iter (S := Int × (List (List Int))) (R := (List (List Int)) × Bool) (fun s101 =>
  (bif (decide (s101.1 < (s101.2.length : Int))) then (idx s101.2 s101.1).bind fun x110 =>
  (bif ((x110.length : Int) == 0) then some (.rt ([], false)) else (idx s101.2 s101.1).bind fun x117 =>
  (yT x117).bind fun r122 =>
  (idx s101.2 s101.1).bind fun x124 =>
  some (.nx (w64 (s101.1 + 1), List.set s101.2 (Int.toNat s101.1) r122))) else some (.br (s101.1, s101.2)))) FU (0, r20)).bind fun o105 => after o105 (fun r_ => some r_) (fun s101 =>
  some (s101.2, true))))
theorem VJ {M : Nat → Prop} {w : World} {pa0 : OA} {pn0 pc0 : Nat} {pa1 : OA} {pn1 pc1 : Nat} (a_ : tA) (k : Int) (gens : tM) (h0 : rp.val M w (sv pa0 pn0 pc0) a_.2 []) (h1 : rm.val M w (sv pa1 pn1 pc1) gens []) (hM : Hm w M) {r : tM × Bool} (hs : yN a_ k gens = some r) :
    Gives Tryz.prog 45 [(.agg #[(iv a_.1), (sv pa0 pn0 pc0)]), (iv k), (sv pa1 pn1 pc1)] w (fun v w' => ∃ (ra0 : OA) (rn0 rc0 : Nat) (rf0 : List Nat), v = (.tuple #[(sv ra0 rn0 rc0), (.bool r.2)]) ∧ Chg [] w w' ∧ (RT.os 34 (RT.os 3 ri)).val M w' (sv ra0 rn0 rc0) r.1 rf0 ∧ Own (Nw w []) (fun _ => True) w' (rf0 ++ [])) := by
 refine zr Tryz.func45 rfl Tryz.ntmps45 (nl rfl) ?_
 have hO := Own.start (N := Nw w []) hM Nw.fut
 have hC := Chg.refl [] w
 unfold yN at hs
 refine wp_k (K := (wQ M w r)) (by rintro _ _ ⟨σ, ra0, rn0, rc0, rf0, rfl, hrest⟩; exact wb Tryz.results45 (zB rfl) (zB rfl) ⟨ra0, rn0, rc0, rf0, rfl, hrest⟩) (c_sr ?_)
 obtain ⟨c7, c8, f9, e2, c1, a1⟩ := zg w [(iv a_.1), (sv pa0 pn0 pc0)] 30
 refine za (w' := c7) (pq c8 0) (Zj rfl (by rw [f9, e2]; kernel_rfl)) ?_
 obtain ⟨h0, h1, hC⟩ := xt3 c1 h0 h1 hC
 have hO := hO.new1 c1 e2 a1.lt
 refine ax rfl (ab rfl (zb (zd (zd ?_))))
 obtain ⟨s4, g0, hs⟩ := bind_some hs
 refine yB (I := fun a a0 => ∃ (σ : Nv), a = fr 60 (ovl σ [(1, (iv k)), (2, (sv pa1 pn1 pc1)), (3, (pq c8 0)), (6, (sv none 0 0)), (7, (.bool false)), (21, (.bool s4))]) ∧ Chg [] c7 a0) ?_ ?_
 ·replace hs := g0
  have hMid := Chg.refl [] c7
  refine ze (za _ (ldw rfl Ag30 a1 Sz30) (mi rfl (ms rfl ?_)))
  obtain ⟨r8, g1, hs⟩ := bind_some hs
  refine zy Bd78 rfl (uO (M := M) (a_.1, a_.2) k gens h0 h1 hO.fut g1) ?_
  rintro _ k7 ⟨rfl, b1⟩
  obtain ⟨h0, h1, a1, hMid, hC, hO⟩ := xt6 b1 h0 h1 a1 hMid hC hO
  refine za _ (ZA rfl) (mb rfl ?_)
  rcases zf hs with ⟨a8, hs⟩ | ⟨a8, hs⟩
  ·skip
   refine pn 17 (cb a8) (pn 17 (cb a8) (pn 17 (cb a8) (za _ (ptb (cb a8) rfl) (zb ?_))))
   cases hs
   exact ⟨_, fr_m 60 rfl, hMid⟩
  refine py 17 (sv pa1 pn1 pc1) (cb a8) (zx rfl) (py 17 _ (cb a8) (zn Sl45 (zt h1) rfl) (py 17 _ (cb a8) (YY rfl rfl) (za _ (pfb (cb a8) rfl) (zb ?_))))
  cases hs
  exact ⟨_, fr_m 60 rfl, hMid⟩
 rintro e3 a0 ⟨σ, rfl, b7⟩
 obtain ⟨h0, h1, a1, hC, hO⟩ := xt5 b7 h0 h1 a1 hC hO
 rcases zf hs with ⟨c9, hs⟩ | ⟨c9, hs⟩
 ·refine zh (cb c9) (c_sr ?_)
  obtain ⟨e4, b2, g2, e5, b8, e6⟩ := zg a0 [] 34
  refine za (w' := e4) (sv (some ⟨b2, 0, none⟩) 0 0) (zz rfl (by rw [g2, e5]; kernel_rfl)) ?_
  obtain ⟨h0, h1, a1, hC⟩ := xt4 b8 h0 h1 a1 hC
  have hO := hO.new1 b8 e5 e6.lt
  have d0 := os0 (r := (RT.os 3 ri)) (M := M) e6
  refine ax rfl (ab rfl (zb (wp_ret ?_)))
  cases hs
  have hO := hO.fr1.drop
  exact ⟨_, (some ⟨b2, 0, none⟩), 0, 0, [b2], fr_m 60 rfl, hC, d0, hO.top⟩
 refine zi (cb c9) (wp_skip (c_sr (za _ (ldw rfl Ag30 a1 Sz30) (mi rfl (ms rfl ?_)))))
 obtain ⟨r14, g3, hs⟩ := bind_some hs
 refine zy Bd43 rfl (Wh (M := M) (a_.1, a_.2) k gens h0 h1 hO.fut g3) ?_
 rintro _ a2 ⟨c2, c3, c4, rfl, b9, c0⟩
 have hK := (show Keeps w M (Past M a0 a2) from Keeps.past hC.size)
 obtain ⟨h0, h1, a1, hC⟩ := xt4 b9 h0 h1 a1 hC
 have hO := hO.past b9
 have h0 := h0.sub (M' := (Past M a0 a2)) (fun g hg => .inl hg.1)
 have h1 := h1.sub (M' := (Past M a0 a2)) (fun g hg => .inl hg.1)
 refine za (.tuple #[(sv c2 c3 c4), (.bool r14.2)]) (zx rfl) (za (sv c2 c3 c4) (zH rfl (by kernel_rfl)) (za (.bool r14.2) (zH rfl (by kernel_rfl)) (ax rfl (ab rfl (zb (zd (c_sr (mb rfl (za _ (ZA rfl) (zb ?_))))))))))
 rcases zf hs with ⟨d1, hs⟩ | ⟨d1, hs⟩
 ·refine zh (cb d1) (c_sr ?_)
  obtain ⟨e7, b3, g4, e8, b4, e9⟩ := zg a2 [] 34
  refine za (w' := e7) (sv (some ⟨b3, 0, none⟩) 0 0) (zz rfl (by rw [g4, e8]; kernel_rfl)) ?_
  obtain ⟨h0, h1, a1, c0, hC⟩ := xt5 b4 h0 h1 a1 c0 hC
  have hO := hO.new1 b4 e8 e9.lt
  have d2 := os0 (r := (RT.os 3 ri)) (M := (Past M a0 a2)) e9
  refine ax rfl (ab rfl (zb (wp_ret ?_)))
  cases hs
  have hO := hO.fr1.drop
  exact ⟨_, (some ⟨b3, 0, none⟩), 0, 0, [b3], fr_m 60 rfl, hC, (d2.free (Free.os (Free.os Free.int))), hO.top⟩
 refine zi (cb d1) (wp_skip (c_sr (za _ (ldw rfl Ag30 a1 Sz30) (mi rfl (ms rfl (ms rfl ?_))))))
 obtain ⟨r20, g5, hs⟩ := bind_some hs
 refine zy Bd79 rfl (uH (M := (Past M a0 a2)) (a_.1, a_.2) k gens r14.1 h0 h1 c0 hO.fut g5) ?_
 rintro _ k8 ⟨a3, a4, a5, f0, rfl, b5, g6, g7⟩
 obtain ⟨h0, h1, a1, c0, hC⟩ := xt5 b5 h0 h1 a1 c0 hC
 have hO := Own.join0 hO b5 g7
 have hO := hO.perm (R := f0 ++ ([c8] ++ [])) (by simp)
 refine ax rfl (zb (zd (c_sr (ai rfl (zb ?_)))))
 have hO := hO.fr1.drop
 obtain ⟨o105, g8, hs⟩ := bind_some hs
 refine wp_block (Zy (id := 0) (I := fun s101 a a7 => ∃ (σ : Nv) (a9 : List Nat), a = fr 60 (ovl σ [(10, (sv a3 a4 a5)), (11, (iv s101.1))]) ∧ Chg [] w a7 ∧ Own (Nw w []) (Past M a0 a2) a7 (a9 ++ []) ∧ (RT.os 34 (RT.os 3 ri)).val (Past M a0 a2) a7 (sv a3 a4 a5) s101.2 a9) (J := fun s101 a a7 => ∃ (σ : Nv) (c5 : List Nat), a = fr 60 (ovl σ [(10, (sv a3 a4 a5))]) ∧ Chg [] w a7 ∧ Own (Nw w []) (Past M a0 a2) a7 (c5 ++ []) ∧ (RT.os 34 (RT.os 3 ri)).val (Past M a0 a2) a7 (sv a3 a4 a5) s101.2 c5) (K := (wQ M w)) ?_ FU (0, r20) o105 _ _ ?_ g8 ?_)
 ·rintro s101 o105 a a7 ⟨σ, a9, rfl, hC, hO, a6⟩ hs
  refine zd (c_sr (mi rfl (ms rfl (za _ (zn Sl45 (ZH a6) rfl) (za _ (zw rfl rfl) (zb ?_))))))
  rcases zf hs with ⟨d3, hs⟩ | ⟨d3, hs⟩
  ·refine zh (cb d3) (wp_skip (zd (wp_block (zd (c_sr (ms rfl (mi rfl ?_)))))))
   obtain ⟨x110, g9, hs⟩ := bind_some hs
   obtain ⟨h2, k9, l0, l1, h3, h4, h5⟩ := zS Sl45 Sz34 a6 g9
   have h6 := ZG (Frz.os Frz.int) h4 h5
   refine za _ (ip h3 rfl rfl) ?_
   obtain ⟨l2, h7, hrow112, f1⟩ := ZR Ag34 Sz34 rfl rfl h6
   obtain ⟨h8, h9, i0, rfl⟩ := yl f1
   refine za (sv h8 h9 i0) (zo rfl (h7 _ (Chg.refl _ _))) (za _ (zn Sl34 (zt f1) rfl) (za (.bool ((x110.length : Int) == 0)) (xV rfl rfl) (zb ?_)))
   rcases zf hs with ⟨d4, hs⟩ | ⟨d4, hs⟩
   ·refine zh (cb d4) (c_sr ?_)
    obtain ⟨f2, b6, i1, f3, d5, f4⟩ := zg a7 [] 34
    refine za (w' := f2) (sv (some ⟨b6, 0, none⟩) 0 0) (zz rfl (by rw [i1, f3]; kernel_rfl)) ?_
    obtain ⟨a6, hC⟩ := xt2 d5 a6 hC
    have hO := hO.new1 d5 f3 f4.lt
    have d6 := os0 (r := (RT.os 3 ri)) (M := (Past M a0 a2)) f4
    refine ax rfl (ab rfl (zb (wp_ret ?_)))
    cases hs
    have hO := hO.fr1.drop
    exact ⟨_, (some ⟨b6, 0, none⟩), 0, 0, [b6], fr_m 60 rfl, hC, (d6.free (Free.os (Free.os Free.int))), hO.top⟩
   refine zi (cb d4) (wp_skip (ze (ms rfl (mi rfl (ms rfl (mi rfl ?_))))))
   obtain ⟨x117, i2, hs⟩ := bind_some hs
   obtain ⟨i3, l3, l4, l5, i4, d7, i5⟩ := zS Sl45 Sz34 a6 i2
   have d8 := ZG (Frz.os Frz.int) d7 i5
   refine za _ (ip i4 rfl rfl) ?_
   obtain ⟨l6, i6, hrow119, c6⟩ := ZR Ag34 Sz34 rfl rfl d8
   obtain ⟨i7, i9, j0, rfl⟩ := yl c6
   refine za (sv i7 i9 j0) (zo rfl (i6 _ (Chg.refl _ _))) ?_
   obtain ⟨r122, j1, hs⟩ := bind_some hs
   refine zy Bd75 rfl (XA (M := (Less (Past M a0 a2) a9)) x117 c6 hO.less.fut j1) ?_
   rintro _ l7 ⟨j2, j3, j4, d9, rfl, b0, e0, j5⟩
   obtain ⟨a6, c6, hrow119, d7, d8, hC⟩ := xt6 b0 a6 c6 hrow119 d7 d8 hC
   have hO := Own.join0 hO b0 j5
   have hO := hO.perm (R := d9 ++ (a9 ++ [])) (by simp)
   have e0 := e0.free (M' := (Past M a0 a2)) (Free.os Free.int)
   obtain ⟨x124, j6, hs⟩ := bind_some hs
   obtain ⟨f5, l8, f6, j7, j8, j9, k0⟩ := zS Sl45 Sz34 a6 j6
   have l9 := ZG (Frz.os Frz.int) j9 k0
   refine za _ (ip j8 rfl rfl) ?_
   have hO := hO.fr1
   obtain ⟨k1, k2, k3, f7, k4, e1⟩ := yH (P := Tryz.prog) (c' := [(sv j2 j3 j4)]) f6 a6 j7 (fun g hg => hO.inM g (zC a6 g (by simpa using hg))) (ZJ e0) (hO.drop.perm (R := d9 ++ []) (by simp)).nd (fun g hg hq => hO.apart g hq (by simp only [List.mem_append, List.not_mem_nil, false_or, or_false] at hg ⊢; simp [hg])) (fun _ h => .inl h)
   have k5 : ∀ q ∈ [f5], q ∈ a9 := fun q hq => zC a6 q (by rw [f6]; exact hq)
   refine Zh (w' := k1) (zY rfl rfl (k3 _ _ rfl Sz34)) ?_
   have hO := hO.fr1.fr1
   have hC := hC.st f7 hO k5
   have hO := (hO.perm (R := a9 ++ (d9 ++ [])) (by simp)).eat f7 (fun q hq => (k4 q hq).elim .inl (fun h => .inr (.inl h))) (zu e1) e1.fpl
   refine zb (ze (mi rfl (za _ (yad rfl rfl) (ai rfl (zb ?_)))))
   cases hs
   exact ⟨_, k2, fr_m 60 rfl, hC, hO, e1⟩
  refine zi (cb d3) (wp_exit ?_)
  cases hs
  exact ⟨rfl, _, a9, fr_m 60 rfl, hC, hO, a6⟩
 ·skip
  exact ⟨_, f0, fr_m 60 rfl, hC, hO, g6⟩
 cases o105 with
 | nx _ => exact True.intro
 | rt r_ =>
  have hs := zq hs
  intro e3 f8 hK
  cases hs
  exact hK
 | br s101 =>
  have hs := zp hs
  rintro e3 a7 ⟨σ, c5, rfl, hC, hO, k6⟩
  refine c_sr (ms rfl (ax rfl (ab rfl (zb (wp_ret ?_)))))
  cases hs
  exact ⟨_, a3, a4, a5, c5, fr_m 60 rfl, hC, (k6.free (Free.os (Free.os Free.int))), hO.top⟩

theorem Bd45 : zF Tryz.prog 45 := zJ Tryz.func45 (by kernel_rfl) rfl

def VT (M : Nat → Prop) (w0 : World) (r : tM × Bool) (a : Act) (w : World) : Prop :=
  ∃ (σ : Nv) (ra0 : OA) (rn0 rc0 : Nat) (rf0 : List Nat), a = fr 22 (ovl σ [(4, (sv ra0 rn0 rc0)), (5, (.bool r.2))]) ∧ Chg [] w0 w ∧ (RT.os 34 (RT.os 3 ri)).val M w (sv ra0 rn0 rc0) r.1 rf0 ∧ Own (Nw w0 []) (fun _ => True) w (rf0 ++ [])
def yP (a_ : Int × (List (Int × (List Int)))) (k : Int) : Option ((List (List Int)) × Bool) :=
  (zX (a_.1, a_.2) k).bind fun r4 =>
  (bif (!r4) then some ([], false) else (Zl a_.1 k).bind fun r10 =>
  (Ye (a_.1, a_.2) k).bind fun r12 =>
  (yN (a_.1, a_.2) r10 r12).bind fun r15 =>
  some (r15.1, r15.2))
theorem VG {M : Nat → Prop} {w : World} {pa0 : OA} {pn0 pc0 : Nat} (a_ : tA) (k : Int) (h0 : rp.val M w (sv pa0 pn0 pc0) a_.2 []) (hM : Hm w M) {r : tM × Bool} (hs : yP a_ k = some r) :
    Gives Tryz.prog 22 [(.agg #[(iv a_.1), (sv pa0 pn0 pc0)]), (iv k)] w (fun v w' => ∃ (ra0 : OA) (rn0 rc0 : Nat) (rf0 : List Nat), v = (.tuple #[(sv ra0 rn0 rc0), (.bool r.2)]) ∧ Chg [] w w' ∧ (RT.os 34 (RT.os 3 ri)).val M w' (sv ra0 rn0 rc0) r.1 rf0 ∧ Own (Nw w []) (fun _ => True) w' (rf0 ++ [])) := by
 refine zr Tryz.func22 rfl Tryz.ntmps22 (nl rfl) ?_
 have hO := Own.start (N := Nw w []) hM Nw.fut
 have hC := Chg.refl [] w
 unfold yP at hs
 refine wp_k (K := (VT M w r)) (by rintro _ _ ⟨σ, ra0, rn0, rc0, rf0, rfl, hrest⟩; exact wb Tryz.results22 (zB rfl) (zB rfl) ⟨ra0, rn0, rc0, rf0, rfl, hrest⟩) (c_sr ?_)
 obtain ⟨c6, a6, c7, c0, b5, a0⟩ := zg w [(iv a_.1), (sv pa0 pn0 pc0)] 30
 refine za (w' := c6) (pq a6 0) (Zj rfl (by rw [c7, c0]; kernel_rfl)) ?_
 obtain ⟨h0, hC⟩ := xt2 b5 h0 hC
 have hO := hO.new1 b5 c0 a0.lt
 refine ax rfl (ab rfl (zb (zd (c_sr (za _ (ldw rfl Ag30 a0 Sz30) (mi rfl ?_))))))
 obtain ⟨r4, c8, hs⟩ := bind_some hs
 refine zy Bd42 rfl (Wj (M := M) (a_.1, a_.2) k h0 hO.fut c8) ?_
 rintro _ b6 ⟨rfl, a7⟩
 obtain ⟨h0, a0, hC, hO⟩ := xt4 a7 h0 a0 hC hO
 refine za _ (ZA rfl) (zb ?_)
 rcases zf hs with ⟨b7, hs⟩ | ⟨b7, hs⟩
 ·refine zh (cb b7) (c_sr ?_)
  obtain ⟨c1, a4, c9, c2, a8, c3⟩ := zg b6 [] 34
  refine za (w' := c1) (sv (some ⟨a4, 0, none⟩) 0 0) (zz rfl (by rw [c9, c2]; kernel_rfl)) ?_
  obtain ⟨h0, a0, hC⟩ := xt3 a8 h0 a0 hC
  have hO := hO.new1 a8 c2 c3.lt
  have b8 := os0 (r := (RT.os 3 ri)) (M := M) c3
  refine ax rfl (ab rfl (zb (wp_ret ?_)))
  cases hs
  have hO := hO.fr1.drop
  exact ⟨_, (some ⟨a4, 0, none⟩), 0, 0, [a4], fr_m 22 rfl, hC, b8, hO.top⟩
 refine zi (cb b7) (wp_skip (zd (zQ [] Mx rfl ?_)))
 have a5 := Chg.drew b6
 generalize World.drew b6 = d0 at a5 ⊢
 obtain ⟨h0, a0, hC, hO⟩ := xt4 a5 h0 a0 hC hO
 have hS := Chg.refl [] d0
 refine xl 0 rfl (ldxw rfl Ag30 a0 Sz30) hS (xq 1 (pq a6 0) rfl (zk rfl yO) hS (xl 2 rfl (ldx rfl Ag3 Sz3 a0 rfl) hS (xmi 3 rfl rfl hS (xl 5 rfl (ldxw rfl Ag30 a0 Sz30) hS (xmi 6 rfl rfl hS (zI (i := 4) (by kernel_rfl) ?_))))))
 obtain ⟨r10, d1, hs⟩ := bind_some hs
 refine zL (b := false) rfl Bd24 rfl (Yj (M := M) a_.1 k  hO.fut d1) rfl (by rintro _ _ _ ⟨rfl, a2⟩; exact hS.ext a2) ?_
 rintro _ d8 ⟨rfl, a2⟩
 obtain ⟨h0, a0, hC, hO, hS⟩ := xt5 a2 h0 a0 hC hO hS
 refine zI (i := 7) (by kernel_rfl) ?_
 obtain ⟨r12, d2, hs⟩ := bind_some hs
 refine zL (b := false) rfl Bd44 rfl (XR (M := M) (a_.1, a_.2) k h0 hO.fut d2) rfl (by rintro _ _ _ ⟨d3, d4, d5, a9, rfl, a3, b0, c4⟩; exact hS.ext a3) ?_
 rintro _ d9 ⟨d3, d4, d5, a9, rfl, a3, b0, c4⟩
 obtain ⟨h0, a0, hC⟩ := xt3 a3 h0 a0 hC
 have hO := Own.join0 hO a3 c4
 have hO := hO.perm (R := a9 ++ ([a6] ++ [])) (by simp)
 have hS := hS.ext a3
 refine zI (i := 8) (by kernel_rfl) ?_
 obtain ⟨r15, d6, hs⟩ := bind_some hs
 refine zL (b := false) rfl Bd45 rfl (VJ (M := (Less M a9)) (a_.1, a_.2) r10 r12 (h0.sub Less.sub) (((Frz.os (Frz.os Frz.int))).val b0 Less.sub Less.not) hO.less.fut d6) rfl (by rintro _ _ _ ⟨b1, b2, b3, b9, rfl, a1, b4, c5⟩; exact hS.ext a1) ?_
 rintro _ e0 ⟨b1, b2, b3, b9, rfl, a1, b4, c5⟩
 obtain ⟨h0, a0, b0, hC⟩ := xt4 a1 h0 a0 b0 hC
 have hO := Own.join0 hO a1 c5
 have hO := hO.perm (R := b9 ++ (a9 ++ ([a6] ++ []))) (by simp)
 have b4 := b4.free (M' := M) (Free.os (Free.os Free.int))
 have hS := hS.ext a1
 refine xq 9 (sv b1 b2 b3) rfl (zH rfl (by kernel_rfl)) hS (xq 10 (.bool r15.2) rfl (zH rfl (by kernel_rfl)) hS (xq 11 (sv b1 b2 b3) rfl (zA rfl) hS (xq 12 (.bool r15.2) rfl (zA rfl) hS (xe ?_))))
 clear hS
 refine wp_ret ?_
 cases hs
 have hO := hO.fr1.drop.fr1.drop
 exact ⟨_, b1, b2, b3, b9, fr_m 22 rfl, hC, b4, hO.top⟩

def WZ (M : Nat → Prop) (w0 : World) (r : (List Int)) (a : Act) (w : World) : Prop :=
  ∃ (σ : Nv) (ra0 : OA) (rn0 rc0 : Nat) (rf0 : List Nat), a = fr 23 (ovl σ [(2, (sv ra0 rn0 rc0))]) ∧ Chg [] w0 w ∧ (RT.os 3 ri).val M w (sv ra0 rn0 rc0) r rf0 ∧ Own (Nw w0 []) (fun _ => True) w (rf0 ++ [])
def YN (a_ : Int × (List (Int × (List Int)))) : Option ((List Int)) :=
  (forC (S := (List Int)) (R := (List Int)) (fun k17 s15 =>
  (idx a_.2 k17).bind fun x25 =>
  (app s15 ([x25.1])).bind fun y31 =>
  some (.nx y31)) 0 (a_.2.length : Int) ([])).bind fun o19 => after o19 (fun r_ => some r_) (fun s15 =>
  some s15)
theorem WQ {M : Nat → Prop} {w : World} {pa0 : OA} {pn0 pc0 : Nat} (a_ : tA) (h0 : rp.val M w (sv pa0 pn0 pc0) a_.2 []) (hM : Hm w M) {r : (List Int)} (hs : YN a_ = some r) :
    Gives Tryz.prog 82 [(.agg #[(iv a_.1), (sv pa0 pn0 pc0)])] w (fun v w' => ∃ (ra0 : OA) (rn0 rc0 : Nat) (rf0 : List Nat), v = (sv ra0 rn0 rc0) ∧ Chg [] w w' ∧ (RT.os 3 ri).val M w' (sv ra0 rn0 rc0) r rf0 ∧ Own (Nw w []) (fun _ => True) w' (rf0 ++ [])) := by
 refine zr Tryz.func82 rfl Tryz.ntmps82 (nl rfl) ?_
 have hO := Own.start (N := Nw w []) hM Nw.fut
 have hC := Chg.refl [] w
 unfold YN at hs
 refine wp_k (K := (WZ M w r)) (by rintro _ _ ⟨σ, ra0, rn0, rc0, rf0, rfl, hrest⟩; exact Za Tryz.results82 (zB rfl) ⟨ra0, rn0, rc0, rf0, rfl, hrest⟩) (c_sr ?_)
 obtain ⟨c7, a2, d8, c8, b6, a0⟩ := zg w [(iv a_.1), (sv pa0 pn0 pc0)] 30
 refine za (w' := c7) (pq a2 0) (Zj rfl (by rw [d8, c8]; kernel_rfl)) ?_
 obtain ⟨h0, hC⟩ := xt2 b6 h0 hC
 have hO := hO.new1 b6 c8 a0.lt
 refine ax rfl (zb (c_sr ?_))
 obtain ⟨c9, a4, d9, d0, b3, d1⟩ := zg c7 [] 3
 refine za (w' := c9) (sv (some ⟨a4, 0, none⟩) 0 0) (zz rfl (by rw [d9, d0]; kernel_rfl)) ?_
 obtain ⟨h0, a0, hC⟩ := xt3 b3 h0 a0 hC
 have hO := hO.new1 b3 d0 d1.lt
 have b7 := os0 (r := ri) (M := M) d1
 refine ax rfl (zb (zd (c_sr (ai rfl (zb ?_)))))
 obtain ⟨o19, e0, hs⟩ := bind_some hs
 refine wp_block (zT (id := 0) (a_.2.length : Int) (I := fun k17 s15 a a1 => ∃ (σ : Nv) (a5 : OA) (a6 : Nat) (a7 : Nat) (b2 : List Nat), a = fr 23 (ovl σ [(1, (pq a2 0)), (3, (sv a5 a6 a7)), (4, (iv k17))]) ∧ Chg [] w a1 ∧ Own (Nw w []) M a1 (b2 ++ ([a2] ++ [])) ∧ rp.val M a1 (sv pa0 pn0 pc0) a_.2 [] ∧ BoxV a1 a2 30 [(iv a_.1), (sv pa0 pn0 pc0)] ∧ (RT.os 3 ri).val M a1 (sv a5 a6 a7) s15 b2) (J := fun s15 a a1 => ∃ (σ : Nv) (a8 : OA) (a9 : Nat) (b0 : Nat) (b4 : List Nat), a = fr 23 (ovl σ [(3, (sv a8 a9 b0))]) ∧ Chg [] w a1 ∧ Own (Nw w []) M a1 (b4 ++ ([a2] ++ [])) ∧ rp.val M a1 (sv pa0 pn0 pc0) a_.2 [] ∧ BoxV a1 a2 30 [(iv a_.1), (sv pa0 pn0 pc0)] ∧ (RT.os 3 ri).val M a1 (sv a8 a9 b0) s15 b4) (K := (WZ M w)) ?_ ?_ 0 [] o19 _ _ ?_ e0 ?_)
 ·rintro k17 s15 a a1 ⟨σ, a5, a6, a7, b2, rfl, hC, hO, h0, a0, b1⟩ hlt
  refine zd (c_sr (mi rfl (za (pq a2 1) (zk rfl Zq) (za _ (ld rfl Ag28 Sz28 a0 rfl) (za _ (zn Sl28 (zt h0) rfl) (za _ (zw rfl rfl) (zb (zi (df hlt) (wp_exit ?_)))))))))
  have hO := hO.fr1.fr1
  exact ⟨rfl, _, a5, a6, a7, b2, fr_m 23 rfl, hC, hO, h0, a0, b1⟩
 ·rintro k17 s15 o19 a a1 ⟨σ, a5, a6, a7, b2, rfl, hC, hO, h0, a0, b1⟩ hlt hw hs
  refine zd (c_sr (mi rfl (za (pq a2 1) (zk rfl Zq) (za _ (ld rfl Ag28 Sz28 a0 rfl) (za _ (zn Sl28 (zt h0) rfl) (za _ (zw rfl rfl) (zb (zh (dt hlt) (wp_skip (zd (wp_block (ze (ms rfl (za (pq a2 1) (zk rfl Zq) (za _ (ld rfl Ag28 Sz28 a0 rfl) (mi rfl ?_))))))))))))))))
  obtain ⟨x25, e1, hs⟩ := bind_some hs
  obtain ⟨d2, d3, e2, b8⟩ := zK Sl28 Sz77 h0 e1
  refine za _ (ip e2 rfl rfl) ?_
  obtain ⟨b9, _⟩ := Xt b8
  refine za (.pointer (some ⟨d2, d3 + 0, none⟩)) (zk rfl ZP) (za (iv x25.1) (zo rfl ((zm Ag3 Sz3 b9) _ (Chg.refl _ _))) ?_)
  obtain ⟨d4, c0, e3, d5, a3, d6⟩ := zg a1 [(iv x25.1)] 3
  refine za (w' := d4) (sv (some ⟨c0, 0, none⟩) 1 1) (zz rfl (by rw [e3, d5]; kernel_rfl)) ?_
  obtain ⟨h0, a0, b1, b8, b9, hC⟩ := xt6 a3 h0 a0 b1 b8 b9 hC
  have hO := hO.new1 a3 d5 d6.lt
  have c1 := os1 (M := M) d6
  obtain ⟨y31, e4, hs⟩ := bind_some hs
  have hO := hO.fr1
  obtain ⟨c2, c3, c4, e5, e6, e7, b5, e8, c5⟩ := ya Rw34 e4 b1 c1 hO.inM (fun g hg hq => hO.apart g hq (zD hg))
  have c6 := zC b1
  refine za (w' := e5) (sv c2 c3 c4) (zN rfl rfl (e7 _)) ?_
  have hO := hO.fr1.fr1
  have h0 := h0.mt b5 hO c6
  have a0 := a0.ap b5 hO c6 (zj mS)
  have hC := hC.st b5 hO c6
  have hO := hO.eat b5 e8 (zu c5) c5.fpl
  refine ax rfl (zb (ze (mi rfl (za _ (yad rfl rfl) (ai rfl (zb ?_))))))
  cases hs
  have hO := hO.fr1.fr1
  exact ⟨_, c2, c3, c4, e6, zG 23 ⟨rfl, rfl, congrArg (Value.int .i64) hw, trivial⟩, hC, hO, h0, a0, c5⟩
 ·skip
  have hO := hO.fr1.fr1
  exact ⟨_, (some ⟨a4, 0, none⟩), 0, 0, [a4], fr_m 23 rfl, hC, hO, h0, a0, b7⟩
 cases o19 with
 | nx _ => exact True.intro
 | rt r_ =>
  have hs := zq hs
  intro e9 d7 hK
  cases hs
  exact hK
 | br s15 =>
  have hs := zp hs
  rintro e9 a1 ⟨σ, a8, a9, b0, b4, rfl, hC, hO, h0, a0, f0⟩
  refine c_sr (ms rfl (ax rfl (zb (wp_ret ?_))))
  cases hs
  have hO := hO.fr1.drop
  exact ⟨_, a8, a9, b0, b4, fr_m 23 rfl, hC, f0, hO.top⟩

theorem Bd82 : zF Tryz.prog 82 := zJ Tryz.func82 (by kernel_rfl) rfl

def uS (M : Nat → Prop) (w0 : World) (r : Bool) (a : Act) (w : World) : Prop :=
  ∃ (σ : Nv) , a = fr 10 (ovl σ [(4, (.bool r))]) ∧ Chg [] w0 w
def xo (a_ : Int × (List (Int × (List Int)))) (b : Int × (List (Int × (List Int)))) : Option (Bool) :=
  (YN (a_.1, a_.2)).bind fun r7 =>
  (YN (b.1, b.2)).bind fun r10 =>
  (Yp r7 r10).bind fun r13 =>
  some r13
theorem uQ {M : Nat → Prop} {w : World} {pa0 : OA} {pn0 pc0 : Nat} {pa1 : OA} {pn1 pc1 : Nat} (a_ : tA) (b : tA) (h0 : rp.val M w (sv pa0 pn0 pc0) a_.2 []) (h1 : rp.val M w (sv pa1 pn1 pc1) b.2 []) (hM : Hm w M) {r : Bool} (hs : xo a_ b = some r) :
    Gives Tryz.prog 47 [(.agg #[(iv a_.1), (sv pa0 pn0 pc0)]), (.agg #[(iv b.1), (sv pa1 pn1 pc1)])] w (fun v w' => v = (.bool r) ∧ Chg [] w w') := by
 refine zr Tryz.func47 rfl Tryz.ntmps47 (nl rfl) ?_
 have hO := Own.start (N := Nw w []) hM Nw.fut
 have hC := Chg.refl [] w
 unfold xo at hs
 refine wp_k (K := (uS M w r)) (by rintro _ _ ⟨σ, rfl, hrest⟩; exact Za Tryz.results47 (zB rfl) ⟨rfl, hrest⟩) (c_sr ?_)
 obtain ⟨b5, b1, c0, b6, a8, a0⟩ := zg w [(iv a_.1), (sv pa0 pn0 pc0)] 30
 refine za (w' := b5) (pq b1 0) (Zj rfl (by rw [c0, b6]; kernel_rfl)) ?_
 obtain ⟨h0, h1, hC⟩ := xt3 a8 h0 h1 hC
 have hO := hO.new1 a8 b6 a0.lt
 obtain ⟨b2, b3, c1, b7, a7, a2⟩ := zg b5 [(iv b.1), (sv pa1 pn1 pc1)] 30
 refine za (w' := b2) (pq b3 0) (Zj rfl (by rw [c1, b7]; kernel_rfl)) ?_
 obtain ⟨h0, h1, a0, hC⟩ := xt4 a7 h0 h1 a0 hC
 have hO := hO.new1 a7 b7 a2.lt
 refine ab rfl (zb (zd (zQ [] Mx rfl ?_)))
 have a5 := Chg.drew b2
 generalize World.drew b2 = c2 at a5 ⊢
 obtain ⟨h0, h1, a0, a2, hC, hO⟩ := xt6 a5 h0 h1 a0 a2 hC hO
 have hS := Chg.refl [] c2
 refine xl 0 rfl (ldxw rfl Ag30 a0 Sz30) hS (xl 2 rfl (ldxw rfl Ag30 a2 Sz30) hS (zI (i := 1) (by kernel_rfl) ?_))
 obtain ⟨r7, c3, hs⟩ := bind_some hs
 refine zL (b := false) rfl Bd82 rfl (WQ (M := M) (a_.1, a_.2) h0 hO.fut c3) rfl (by rintro _ _ _ ⟨c4, c5, c6, a9, rfl, a4, a6, b8⟩; exact hS.ext a4) ?_
 rintro _ d3 ⟨c4, c5, c6, a9, rfl, a4, a6, b8⟩
 obtain ⟨h0, h1, a0, a2, hC⟩ := xt5 a4 h0 h1 a0 a2 hC
 have hO := Own.join0 hO a4 b8
 have hO := hO.perm (R := a9 ++ ([b3] ++ ([b1] ++ []))) (by simp)
 have hS := hS.ext a4
 refine zI (i := 3) (by kernel_rfl) ?_
 obtain ⟨r10, c7, hs⟩ := bind_some hs
 refine zL (b := false) rfl Bd82 rfl (WQ (M := M) (b.1, b.2) h1 hO.fut c7) rfl (by rintro _ _ _ ⟨c8, c9, d0, b4, rfl, a3, b0, b9⟩; exact hS.ext a3) ?_
 rintro _ d4 ⟨c8, c9, d0, b4, rfl, a3, b0, b9⟩
 obtain ⟨h0, h1, a0, a2, a6, hC⟩ := xt6 a3 h0 h1 a0 a2 a6 hC
 have hO := Own.join0 hO a3 b9
 have hO := hO.perm (R := b4 ++ (a9 ++ ([b3] ++ ([b1] ++ [])))) (by simp)
 have hS := hS.ext a3
 refine zI (i := 4) (by kernel_rfl) ?_
 have hO := hO.fr1
 obtain ⟨r13, d1, hs⟩ := bind_some hs
 refine zL (b := false) rfl Bd81 rfl (vf (M := (Less (Less M a9) b4)) r7 r10 ((((Frz.os Frz.int)).val a6 Less.sub Less.not).sub Less.sub) (((Frz.os Frz.int)).val (b0.sub Less.sub) Less.sub Less.not) (hO.less).less.fut d1) rfl (by rintro _ _ _ ⟨rfl, a1⟩; exact hS.ext a1) ?_
 rintro _ d5 ⟨rfl, a1⟩
 obtain ⟨h0, h1, a0, a2, a6, b0, hC, hO⟩ := xt8 a1 h0 h1 a0 a2 a6 b0 hC hO
 have hS := hS.ext a1
 refine xq 5 (.bool r13) rfl (zA rfl) hS (xe ?_)
 clear hS
 refine wp_ret ?_
 cases hs
 exact ⟨_, fr_m 10 rfl, hC⟩

theorem Bd47 : zF Tryz.prog 47 := zJ Tryz.func47 (by kernel_rfl) rfl

def zaj (M : Nat → Prop) (w0 : World) (r : Bool) (a : Act) (w : World) : Prop :=
  ∃ (σ : Nv) , a = fr 16 (ovl σ [(4, (.bool r))]) ∧ Chg [] w0 w
def xh (a_ : Int × (List (Int × (List Int)))) (b : Int × (List (Int × (List Int)))) : Option (Bool) :=
  (zZ (a_.1, a_.2)).bind fun r6 =>
  (bif r6 then (zZ (b.1, b.2)).bind fun r9 =>
  (bif r9 then (xo (a_.1, a_.2) (b.1, b.2)).bind fun r12 =>
  some r12 else some false) else some false)
theorem zav {M : Nat → Prop} {w : World} {pa0 : OA} {pn0 pc0 : Nat} {pa1 : OA} {pn1 pc1 : Nat} (a_ : tA) (b : tA) (h0 : rp.val M w (sv pa0 pn0 pc0) a_.2 []) (h1 : rp.val M w (sv pa1 pn1 pc1) b.2 []) (hM : Hm w M) {r : Bool} (hs : xh a_ b = some r) :
    Gives Tryz.prog 23 [(.agg #[(iv a_.1), (sv pa0 pn0 pc0)]), (.agg #[(iv b.1), (sv pa1 pn1 pc1)])] w (fun v w' => v = (.bool r) ∧ Chg [] w w') := by
 refine zr Tryz.func23 rfl Tryz.ntmps23 (nl rfl) ?_
 have hO := Own.start (N := Nw w []) hM Nw.fut
 have hC := Chg.refl [] w
 unfold xh at hs
 refine wp_k (K := (zaj M w r)) (by rintro _ _ ⟨σ, rfl, hrest⟩; exact Za Tryz.results23 (zB rfl) ⟨rfl, hrest⟩) (c_sr ?_)
 obtain ⟨a9, b2, b3, b0, a8, a0⟩ := zg w [(iv a_.1), (sv pa0 pn0 pc0)] 30
 refine za (w' := a9) (pq b2 0) (Zj rfl (by rw [b3, b0]; kernel_rfl)) ?_
 obtain ⟨h0, h1, hC⟩ := xt3 a8 h0 h1 hC
 have hO := hO.new1 a8 b0 a0.lt
 obtain ⟨b4, b5, b6, b1, a7, a1⟩ := zg a9 [(iv b.1), (sv pa1 pn1 pc1)] 30
 refine za (w' := b4) (pq b5 0) (Zj rfl (by rw [b6, b1]; kernel_rfl)) ?_
 obtain ⟨h0, h1, a0, hC⟩ := xt4 a7 h0 h1 a0 hC
 have hO := hO.new1 a7 b1 a1.lt
 refine ab rfl (zb (c_sr (za _ (ldw rfl Ag30 a0 Sz30) ?_)))
 obtain ⟨r6, b7, hs⟩ := bind_some hs
 refine zy Bd46 rfl (Xg (M := M) (a_.1, a_.2) h0 hO.fut b7) ?_
 rintro _ c1 ⟨rfl, a4⟩
 obtain ⟨h0, h1, a0, a1, hC, hO⟩ := xt6 a4 h0 h1 a0 a1 hC hO
 refine mb rfl ?_
 rcases zf hs with ⟨a3, hs⟩ | ⟨a3, hs⟩
 ·skip
  refine py 7 _ (cb a3) (ldw rfl Ag30 a1 Sz30) ?_
  obtain ⟨r9, b8, hs⟩ := bind_some hs
  refine yt (tg := 7) (by kernel_rfl) (cb a3) Bd46 rfl (Xg (M := M) (b.1, b.2) h1 hO.fut b8) ?_
  rintro _ c2 ⟨rfl, a5⟩
  obtain ⟨h0, h1, a0, a1, hC, hO⟩ := xt6 a5 h0 h1 a0 a1 hC hO
  refine za _ (ptb (cb a3) rfl) (mb rfl ?_)
  rcases zf hs with ⟨a2, hs⟩ | ⟨a2, hs⟩
  ·skip
   refine py 11 _ (cb a2) (ldw rfl Ag30 a0 Sz30) (py 11 _ (cb a2) (ldw rfl Ag30 a1 Sz30) ?_)
   obtain ⟨r12, b9, hs⟩ := bind_some hs
   refine yt (tg := 11) (by kernel_rfl) (cb a2) Bd47 rfl (uQ (M := M) (a_.1, a_.2) (b.1, b.2) h0 h1 hO.fut b9) ?_
   rintro _ c3 ⟨rfl, a6⟩
   obtain ⟨h0, h1, a0, a1, hC, hO⟩ := xt6 a6 h0 h1 a0 a1 hC hO
   refine za _ (ptb (cb a2) rfl) (ab rfl (zb (wp_ret ?_)))
   cases hs
   exact ⟨_, fr_m 16 rfl, hC⟩
  refine pn 11 (cb a2) (pn 11 (cb a2) (pn 11 (cb a2) (za _ (pfb (cb a2) rfl) (ab rfl (zb (wp_ret ?_))))))
  cases hs
  exact ⟨_, fr_m 16 rfl, hC⟩
 refine pn 7 (cb a3) (pn 7 (cb a3) (za _ (pfb (cb a3) rfl) (mb rfl (pn 11 (by rfl) (pn 11 (by rfl) (pn 11 (by rfl) (za _ (pfb (by rfl) rfl) (ab rfl (zb (wp_ret ?_))))))))))
 cases hs
 exact ⟨_, fr_m 16 rfl, hC⟩

def Wc (M : Nat → Prop) (w0 : World) (r : Int) (a : Act) (w : World) : Prop :=
  ∃ (σ : Nv) , a = fr 33 (ovl σ [(6, (iv r))]) ∧ Chg [] w0 w
def ZS (a_ : Int × (List (Int × (List Int)))) (op : Int) (args : List Int) : Option (Int) :=
  (forC (S := Int) (R := Int) (fun k9 s7 =>
  (idx args k9).bind fun x14 =>
  some (.nx (w64 ((w64 (s7 * a_.1)) + x14)))) 0 (args.length : Int) 0).bind fun o11 => after o11 (fun r_ => some r_) (fun s7 =>
  (idx a_.2 op).bind fun x16 =>
  (idx x16.2 s7).bind fun x21 =>
  some x21)
theorem Wf {M : Nat → Prop} {w : World} {pa0 : OA} {pn0 pc0 : Nat} {pa1 : OA} {pn1 pc1 : Nat} (a_ : tA) (op : Int) (args : List Int) (h0 : rp.val M w (sv pa0 pn0 pc0) a_.2 []) (h1 : rl.val M w (sv pa1 pn1 pc1) args []) (hM : Hm w M) {r : Int} (hs : ZS a_ op args = some r) :
    Gives Tryz.prog 53 [(.agg #[(iv a_.1), (sv pa0 pn0 pc0)]), (iv op), (sv pa1 pn1 pc1)] w (fun v w' => v = (iv r) ∧ Chg [] w w') := by
 refine zr Tryz.func53 rfl Tryz.ntmps53 (nl rfl) ?_
 have hO := Own.start (N := Nw w []) hM Nw.fut
 have hC := Chg.refl [] w
 unfold ZS at hs
 refine wp_k (K := (Wc M w r)) (by rintro _ _ ⟨σ, rfl, hrest⟩; exact Za Tryz.results53 (zB rfl) ⟨rfl, hrest⟩) (c_sr ?_)
 obtain ⟨b0, a2, b1, a5, a4, a1⟩ := zg w [(iv a_.1), (sv pa0 pn0 pc0)] 30
 refine za (w' := b0) (pq a2 0) (Zj rfl (by rw [b1, a5]; kernel_rfl)) ?_
 obtain ⟨h0, h1, hC⟩ := xt3 a4 h0 h1 hC
 have hO := hO.new1 a4 a5 a1.lt
 refine ai rfl (zb (c_sr (ai rfl (zb (zd (c_sr (ai rfl (zb ?_))))))))
 obtain ⟨o11, b2, hs⟩ := bind_some hs
 refine wp_block (zT (id := 0) (args.length : Int) (I := fun k9 s7 a a0 => ∃ (σ : Nv), a = fr 33 (ovl σ [(1, (iv op)), (2, (sv pa1 pn1 pc1)), (3, (pq a2 0)), (7, (iv s7)), (8, (iv k9))]) ∧ Chg [] w a0 ∧ Own (Nw w []) M a0 ([a2] ++ []) ∧ rp.val M a0 (sv pa0 pn0 pc0) a_.2 [] ∧ rl.val M a0 (sv pa1 pn1 pc1) args [] ∧ BoxV a0 a2 30 [(iv a_.1), (sv pa0 pn0 pc0)]) (J := fun s7 a a0 => ∃ (σ : Nv), a = fr 33 (ovl σ [(1, (iv op)), (3, (pq a2 0)), (7, (iv s7))]) ∧ Chg [] w a0 ∧ Own (Nw w []) M a0 ([a2] ++ []) ∧ rp.val M a0 (sv pa0 pn0 pc0) a_.2 [] ∧ rl.val M a0 (sv pa1 pn1 pc1) args [] ∧ BoxV a0 a2 30 [(iv a_.1), (sv pa0 pn0 pc0)]) (K := (Wc M w)) ?_ ?_ 0 0 o11 _ _ ?_ b2 ?_)
 ·rintro k9 s7 a a0 ⟨σ, rfl, hC, hO, h0, h1, a1⟩ hlt
  refine zd (c_sr (mi rfl (ms rfl (za _ (zn Sl34 (zt h1) rfl) (za _ (zw rfl rfl) (zb (zi (df hlt) (wp_exit ?_))))))))
  exact ⟨rfl, _, fr_m 33 rfl, hC, hO, h0, h1, a1⟩
 ·rintro k9 s7 o11 a a0 ⟨σ, rfl, hC, hO, h0, h1, a1⟩ hlt hw hs
  refine zd (c_sr (mi rfl (ms rfl (za _ (zn Sl34 (zt h1) rfl) (za _ (zw rfl rfl) (zb (zh (dt hlt) (wp_skip (zd (wp_block (zQ [] Mx rfl ?_)))))))))))
  have a3 := Chg.drew a0
  generalize World.drew a0 = b3 at a3 ⊢
  obtain ⟨h0, h1, a1, hC, hO⟩ := xt5 a3 h0 h1 a1 hC hO
  have hS := Chg.refl [] b3
  refine xmi 0 rfl rfl hS (xq 1 (pq a2 0) rfl (zk rfl yO) hS (xl 2 rfl (ldx rfl Ag3 Sz3 a1 rfl) hS (xq 3 _ rfl (ymu rfl rfl) hS (xms 4 rfl rfl hS (xmi 5 rfl rfl hS ?_)))))
  obtain ⟨x14, b4, hs⟩ := bind_some hs
  obtain ⟨b5, b6, b7, b8⟩ := zK Sl34 Sz3 h1 b4
  refine xq 6 _ rfl (ip b7 rfl rfl) hS (x_l 7 (iv x14) rfl (by kernel_rfl) (fun w' hw' => zo rfl ((zm Ag3 Sz3 b8) w' hw')) hS (xq 8 _ rfl (yad rfl rfl) hS (xq 9 (iv (w64 ((w64 (s7 * a_.1)) + x14))) rfl (zA rfl) hS (xe ?_))))
  clear hS
  refine ze (mi rfl (za _ (yad rfl rfl) (ai rfl (zb ?_))))
  cases hs
  exact ⟨_, zG 33 ⟨rfl, rfl, rfl, rfl, congrArg (Value.int .i64) hw, trivial⟩, hC, hO, h0, h1, a1⟩
 ·skip
  exact ⟨_, fr_m 33 rfl, hC, hO, h0, h1, a1⟩
 cases o11 with
 | nx _ => exact True.intro
 | rt r_ =>
  have hs := zq hs
  intro b9 a9 hK
  cases hs
  exact hK
 | br s7 =>
  have hs := zp hs
  rintro b9 a0 ⟨σ, rfl, hC, hO, h0, h1, a1⟩
  refine c_sr (za (pq a2 1) (zk rfl Zq) (za _ (ld rfl Ag28 Sz28 a1 rfl) (mi rfl ?_)))
  obtain ⟨x16, c0, hs⟩ := bind_some hs
  obtain ⟨a6, a7, c1, c2⟩ := zK Sl28 Sz77 h0 c0
  refine za _ (ip c1 rfl rfl) ?_
  obtain ⟨_, c3⟩ := Xt c2
  refine za (.pointer (some ⟨a6, a7 + 1, none⟩)) (zk rfl xA) ?_
  obtain ⟨d3, c4, a8⟩ := Zc Ag34 Sz34 (fun _ => rfl) c3
  obtain ⟨c5, c6, c7, rfl⟩ := yl a8
  refine za (sv c5 c6 c7) (zo rfl (c4 _ (Chg.refl _ _))) (mi rfl ?_)
  obtain ⟨x21, c8, hs⟩ := bind_some hs
  obtain ⟨c9, d0, d1, d2⟩ := zK Sl34 Sz3 a8 c8
  refine za _ (ip d1 rfl rfl) (za (iv x21) (zo rfl ((zm Ag3 Sz3 d2) _ (Chg.refl _ _))) (ai rfl (zb (wp_ret ?_))))
  cases hs
  exact ⟨_, fr_m 33 rfl, hC⟩

theorem Bd53 : zF Tryz.prog 53 := zJ Tryz.func53 (by kernel_rfl) rfl

def XG (M : Nat → Prop) (w0 : World) (r : Int) (a : Act) (w : World) : Prop :=
  ∃ (σ : Nv) , a = fr 79 (ovl σ [(6, (iv r))]) ∧ Chg [] w0 w
def YW (a_ : Int × (List (Int × (List Int)))) (t : List Int) (values : List Int) : Option (Int) :=
  (iter (S := (List Int) × Int) (R := Int) (fun s75 =>
  (bif (decide (0 ≤ s75.2)) then (idx t s75.2).bind fun x86 =>
  (bif (decide (0 ≤ x86)) then (idx t s75.2).bind fun x89 =>
  (idx values x89).bind fun x91 =>
  (app s75.1 ([x91])).bind fun y96 =>
  some (.nx (y96, w64 (s75.2 - 1))) else (idx t s75.2).bind fun x98 =>
  (iter (S := (List Int) × Int) (R := Int) (fun s115 =>
  (idx a_.2 (w64 ((-1) - x98))).bind fun x125 =>
  (bif (decide (s115.2 < x125.1)) then (idx s75.1 (w64 ((w64 ((s75.1.length : Int) - 1)) - s115.2))).bind fun x129 =>
  (app s115.1 ([x129])).bind fun y134 =>
  some (.nx (y134, w64 (s115.2 + 1))) else some (.br (s115.1, s115.2)))) FU ([], 0)).bind fun o119 => after o119 (fun r_ => some (.rt r_)) (fun s115 =>
  (slc s75.1 0 (w64 ((s75.1.length : Int) - (s115.1.length : Int)))).bind fun y138 =>
  (yT y138).bind fun r141 =>
  (ZS (a_.1, a_.2) (w64 ((-1) - x98)) s115.1).bind fun r144 =>
  (app r141 ([r144])).bind fun y148 =>
  some (.nx (y148, w64 (s75.2 - 1))))) else some (.br (s75.1, s75.2)))) FU ([], w64 ((t.length : Int) - 1))).bind fun o79 => after o79 (fun r_ => some r_) (fun s75 =>
  (idx s75.1 0).bind fun x150 =>
  some x150)
theorem uq {M : Nat → Prop} {w : World} {pa0 : OA} {pn0 pc0 : Nat} {pa1 : OA} {pn1 pc1 : Nat} {pa2 : OA} {pn2 pc2 : Nat} (a_ : tA) (t : List Int) (values : List Int) (h0 : rp.val M w (sv pa0 pn0 pc0) a_.2 []) (h1 : rl.val M w (sv pa1 pn1 pc1) t []) (h2 : rl.val M w (sv pa2 pn2 pc2) values []) (hM : Hm w M) {r : Int} (hs : YW a_ t values = some r) :
    Gives Tryz.prog 48 [(.agg #[(iv a_.1), (sv pa0 pn0 pc0)]), (sv pa1 pn1 pc1), (sv pa2 pn2 pc2)] w (fun v w' => v = (iv r) ∧ Chg [] w w') := by
 refine zr Tryz.func48 rfl Tryz.ntmps48 (nl rfl) ?_
 have hO := Own.start (N := Nw w []) hM Nw.fut
 have hC := Chg.refl [] w
 unfold YW at hs
 refine wp_k (K := (XG M w r)) (by rintro _ _ ⟨σ, rfl, hrest⟩; exact Za Tryz.results48 (zB rfl) ⟨rfl, hrest⟩) (c_sr ?_)
 obtain ⟨h4, a4, j6, h5, c7, a0⟩ := zg w [(iv a_.1), (sv pa0 pn0 pc0)] 30
 refine za (w' := h4) (pq a4 0) (Zj rfl (by rw [j6, h5]; kernel_rfl)) ?_
 obtain ⟨h0, h1, h2, hC⟩ := xt4 c7 h0 h1 h2 hC
 have hO := hO.new1 c7 h5 a0.lt
 refine ai rfl (zb (c_sr ?_))
 obtain ⟨h6, c2, j7, h7, c3, h8⟩ := zg h4 [] 3
 refine za (w' := h6) (sv (some ⟨c2, 0, none⟩) 0 0) (zz rfl (by rw [j7, h7]; kernel_rfl)) ?_
 obtain ⟨h0, h1, h2, a0, hC⟩ := xt5 c3 h0 h1 h2 a0 hC
 have hO := hO.new1 c3 h7 h8.lt
 have e1 := os0 (r := ri) (M := M) h8
 refine ax rfl (zb (zd (c_sr (ms rfl (za _ (zn Sl34 (zt h1) rfl) (za _ (ysu rfl rfl) (ai rfl (zb ?_))))))))
 obtain ⟨o79, j8, hs⟩ := bind_some hs
 refine wp_block (Zy (id := 0) (I := fun s75 a a3 => ∃ (σ : Nv) (a5 : OA) (a6 : Nat) (a7 : Nat) (b2 : List Nat), a = fr 79 (ovl σ [(1, (sv pa1 pn1 pc1)), (2, (sv pa2 pn2 pc2)), (3, (pq a4 0)), (7, (sv a5 a6 a7)), (8, (iv s75.2))]) ∧ Chg [] w a3 ∧ Own (Nw w []) M a3 (b2 ++ ([a4] ++ [])) ∧ rp.val M a3 (sv pa0 pn0 pc0) a_.2 [] ∧ rl.val M a3 (sv pa1 pn1 pc1) t [] ∧ rl.val M a3 (sv pa2 pn2 pc2) values [] ∧ BoxV a3 a4 30 [(iv a_.1), (sv pa0 pn0 pc0)] ∧ (RT.os 3 ri).val M a3 (sv a5 a6 a7) s75.1 b2) (J := fun s75 a a3 => ∃ (σ : Nv) (d7 : OA) (d8 : Nat) (d9 : Nat) (e2 : List Nat), a = fr 79 (ovl σ [(7, (sv d7 d8 d9))]) ∧ Chg [] w a3 ∧ Own (Nw w []) M a3 (e2 ++ ([a4] ++ [])) ∧ rp.val M a3 (sv pa0 pn0 pc0) a_.2 [] ∧ rl.val M a3 (sv pa1 pn1 pc1) t [] ∧ rl.val M a3 (sv pa2 pn2 pc2) values [] ∧ BoxV a3 a4 30 [(iv a_.1), (sv pa0 pn0 pc0)] ∧ (RT.os 3 ri).val M a3 (sv d7 d8 d9) s75.1 e2) (K := (XG M w)) ?_ FU ([], w64 ((t.length : Int) - 1)) o79 _ _ ?_ j8 ?_)
 ·rintro s75 o79 a a3 ⟨σ, a5, a6, a7, b2, rfl, hC, hO, h0, h1, h2, a0, a1⟩ hs
  refine zd (c_sr (mi rfl (za _ (Xs rfl rfl) (zb ?_))))
  rcases zf hs with ⟨e3, hs⟩ | ⟨e3, hs⟩
  ·refine zh (cb e3) (wp_skip (zd (wp_block (zd (c_sr (ms rfl (mi rfl ?_)))))))
   obtain ⟨x86, j9, hs⟩ := bind_some hs
   obtain ⟨k0, k1, k2, k3⟩ := zK Sl34 Sz3 h1 j9
   refine za _ (ip k2 rfl rfl) (za (iv x86) (zo rfl ((zm Ag3 Sz3 k3) _ (Chg.refl _ _))) (za _ (Xs rfl rfl) (zb ?_)))
   rcases zf hs with ⟨e4, hs⟩ | ⟨e4, hs⟩
   ·refine zh (cb e4) (c_sr (ms rfl (ms rfl (ms rfl (mi rfl ?_)))))
    obtain ⟨x89, k4, hs⟩ := bind_some hs
    obtain ⟨k5, k6, k7, e5⟩ := zK Sl34 Sz3 h1 k4
    refine za _ (ip k7 rfl rfl) (za (iv x89) (zo rfl ((zm Ag3 Sz3 e5) _ (Chg.refl _ _))) ?_)
    obtain ⟨x91, k8, hs⟩ := bind_some hs
    obtain ⟨k9, l0, l1, e6⟩ := zK Sl34 Sz3 h2 k8
    refine za _ (ip l1 rfl rfl) (za (iv x91) (zo rfl ((zm Ag3 Sz3 e6) _ (Chg.refl _ _))) ?_)
    obtain ⟨h9, e7, l2, i0, b3, i1⟩ := zg a3 [(iv x91)] 3
    refine za (w' := h9) (sv (some ⟨e7, 0, none⟩) 1 1) (zz rfl (by rw [l2, i0]; kernel_rfl)) ?_
    obtain ⟨h0, h1, h2, a0, a1, e5, e6, hC⟩ := xt8 b3 h0 h1 h2 a0 a1 e5 e6 hC
    have hO := hO.new1 b3 i0 i1.lt
    have e8 := os1 (M := M) i1
    obtain ⟨y96, l3, hs⟩ := bind_some hs
    have hO := hO.fr1
    obtain ⟨e9, f0, f1, l4, l5, l6, c4, l7, f2⟩ := ya Rw34 l3 a1 e8 hO.inM (fun g hg hq => hO.apart g hq (zD hg))
    have c8 := zC a1
    refine za (w' := l4) (sv e9 f0 f1) (zN rfl rfl (l6 _)) ?_
    have hO := hO.fr1.fr1
    have h0 := h0.mt c4 hO c8
    have h1 := h1.mt c4 hO c8
    have h2 := h2.mt c4 hO c8
    have a0 := a0.ap c4 hO c8 (zj mS)
    have hC := hC.st c4 hO c8
    have hO := hO.eat c4 l7 (zu f2) f2.fpl
    refine ax rfl (zb (wp_exit (ze (mi rfl (za _ (ysu rfl rfl) (ai rfl (zb ?_)))))))
    cases hs
    have hO := hO.fr1.fr1
    exact ⟨_, e9, f0, f1, l5, fr_m 79 rfl, hC, hO, h0, h1, h2, a0, f2⟩
   refine zi (cb e4) (wp_skip (c_sr (ms rfl (mi rfl ?_))))
   obtain ⟨x98, l8, hs⟩ := bind_some hs
   obtain ⟨l9, m0, m1, f3⟩ := zK Sl34 Sz3 h1 l8
   refine za _ (ip m1 rfl rfl) (za (iv x98) (zo rfl ((zm Ag3 Sz3 f3) _ (Chg.refl _ _))) (za _ (ysu rfl rfl) ?_))
   obtain ⟨i2, c5, m2, i3, c0, i4⟩ := zg a3 [] 3
   refine za (w' := i2) (sv (some ⟨c5, 0, none⟩) 0 0) (zz rfl (by rw [m2, i3]; kernel_rfl)) ?_
   obtain ⟨h0, h1, h2, a0, a1, f3, hC⟩ := xt7 c0 h0 h1 h2 a0 a1 f3 hC
   have hO := hO.new1 c0 i3 i4.lt
   have f4 := os0 (r := ri) (M := M) i4
   refine ai rfl (ax rfl (zb (zd (c_sr (ai rfl (zb ?_))))))
   obtain ⟨o119, m3, hs⟩ := bind_some hs
   refine wp_block (Zy (id := 2) (I := fun s115 a a2 => ∃ (σ : Nv) (c9 : OA) (d0 : Nat) (d1 : Nat) (e0 : List Nat), a = fr 79 (ovl σ [(1, (sv pa1 pn1 pc1)), (2, (sv pa2 pn2 pc2)), (3, (pq a4 0)), (7, (sv a5 a6 a7)), (8, (iv s75.2)), (9, (iv (w64 ((-1) - x98)))), (10, (sv c9 d0 d1)), (11, (iv s115.2))]) ∧ Chg [] w a2 ∧ Own (Nw w []) M a2 (e0 ++ (b2 ++ ([a4] ++ []))) ∧ rp.val M a2 (sv pa0 pn0 pc0) a_.2 [] ∧ rl.val M a2 (sv pa1 pn1 pc1) t [] ∧ rl.val M a2 (sv pa2 pn2 pc2) values [] ∧ BoxV a2 a4 30 [(iv a_.1), (sv pa0 pn0 pc0)] ∧ (RT.os 3 ri).val M a2 (sv a5 a6 a7) s75.1 b2 ∧ (RT.os 3 ri).val M a2 (sv c9 d0 d1) s115.1 e0) (J := fun s115 a a2 => ∃ (σ : Nv) (d2 : OA) (d3 : Nat) (d4 : Nat) (d5 : List Nat), a = fr 79 (ovl σ [(1, (sv pa1 pn1 pc1)), (2, (sv pa2 pn2 pc2)), (3, (pq a4 0)), (7, (sv a5 a6 a7)), (8, (iv s75.2)), (9, (iv (w64 ((-1) - x98)))), (10, (sv d2 d3 d4))]) ∧ Chg [] w a2 ∧ Own (Nw w []) M a2 (d5 ++ (b2 ++ ([a4] ++ []))) ∧ rp.val M a2 (sv pa0 pn0 pc0) a_.2 [] ∧ rl.val M a2 (sv pa1 pn1 pc1) t [] ∧ rl.val M a2 (sv pa2 pn2 pc2) values [] ∧ BoxV a2 a4 30 [(iv a_.1), (sv pa0 pn0 pc0)] ∧ (RT.os 3 ri).val M a2 (sv a5 a6 a7) s75.1 b2 ∧ (RT.os 3 ri).val M a2 (sv d2 d3 d4) s115.1 d5) (K := (XG M w)) ?_ FU ([], 0) o119 _ _ ?_ m3 ?_)
   ·rintro s115 o119 a a2 ⟨σ, c9, d0, d1, e0, rfl, hC, hO, h0, h1, h2, a0, a1, d6⟩ hs
    refine zd (c_sr (mi rfl (za (pq a4 1) (zk rfl Zq) (za _ (ld rfl Ag28 Sz28 a0 rfl) (mi rfl ?_)))))
    obtain ⟨x125, m4, hs⟩ := bind_some hs
    obtain ⟨i5, i6, m5, m6⟩ := zK Sl28 Sz77 h0 m4
    refine za _ (ip m5 rfl rfl) ?_
    obtain ⟨m7, _⟩ := Xt m6
    refine za (.pointer (some ⟨i5, i6 + 0, none⟩)) (zk rfl ZP) (za (iv x125.1) (zo rfl ((zm Ag3 Sz3 m7) _ (Chg.refl _ _))) (za _ (zw rfl rfl) (zb ?_)))
    rcases zf hs with ⟨f5, hs⟩ | ⟨f5, hs⟩
    ·refine zh (cb f5) (wp_skip (zd (wp_block (ze (ms rfl (ms rfl (ms rfl (za _ (zn Sl34 (ZH a1) rfl) (za _ (ysu rfl rfl) (mi rfl (za _ (ysu rfl rfl) ?_)))))))))))
     obtain ⟨x129, m8, hs⟩ := bind_some hs
     obtain ⟨m9, q0, q1, q2, n0, f6, q3⟩ := zS Sl34 Sz3 a1 m8
     refine za _ (ip n0 rfl rfl) (za (iv x129) (zo rfl ((zm Ag3 Sz3 f6) _ (Chg.refl _ _))) ?_)
     obtain ⟨i7, f7, n1, i9, b4, j0⟩ := zg a2 [(iv x129)] 3
     refine za (w' := i7) (sv (some ⟨f7, 0, none⟩) 1 1) (zz rfl (by rw [n1, i9]; kernel_rfl)) ?_
     obtain ⟨h0, h1, h2, a0, a1, d6, f6, hC⟩ := xt8 b4 h0 h1 h2 a0 a1 d6 f6 hC
     have hO := hO.new1 b4 i9 j0.lt
     have f8 := os1 (M := M) j0
     obtain ⟨y134, n2, hs⟩ := bind_some hs
     have hO := hO.fr1
     obtain ⟨f9, g0, g1, n3, n4, n5, c1, n6, g2⟩ := ya Rw34 n2 d6 f8 hO.inM (fun g hg hq => hO.apart g hq (zD hg))
     have c6 := zC d6
     refine za (w' := n3) (sv f9 g0 g1) (zN rfl rfl (n5 _)) ?_
     have hO := hO.fr1.fr1
     have h0 := h0.mt c1 hO c6
     have h1 := h1.mt c1 hO c6
     have h2 := h2.mt c1 hO c6
     have a0 := a0.ap c1 hO c6 (zj (zj mS))
     have a1 := a1.ma c1 hO c6 (fun _ e => (zj (zD (e))))
     have hC := hC.st c1 hO c6
     have hO := hO.eat c1 n6 (zu g2) g2.fpl
     refine ax rfl (zb (ze (mi rfl (za _ (yad rfl rfl) (ai rfl (zb ?_))))))
     cases hs
     have hO := hO.fr2.fr2.fr2
     exact ⟨_, f9, g0, g1, n4, fr_m 79 rfl, hC, hO, h0, h1, h2, a0, a1, g2⟩
    refine zi (cb f5) (wp_exit ?_)
    cases hs
    have hO := hO.fr2.fr2.fr2
    exact ⟨rfl, _, c9, d0, d1, e0, fr_m 79 rfl, hC, hO, h0, h1, h2, a0, a1, d6⟩
   ·skip
    have hO := hO.fr2.fr2.fr2
    exact ⟨_, (some ⟨c5, 0, none⟩), 0, 0, [c5], fr_m 79 rfl, hC, hO, h0, h1, h2, a0, a1, f4⟩
   cases o119 with
   | nx _ => exact True.intro
   | rt r_ =>
    have hs := zq hs
    intro g3 h3 hK
    cases hs
    exact hK
   | br s115 =>
    have hs := zp hs
    rintro g3 a2 ⟨σ, d2, d3, d4, d5, rfl, hC, hO, h0, h1, h2, a0, a1, a9⟩
    refine zQ [13] Mx rfl ?_
    have b5 := Chg.drew a2
    generalize World.drew a2 = n7 at b5 ⊢
    obtain ⟨h0, h1, h2, a0, a1, a9, hC, hO⟩ := xt8 b5 h0 h1 h2 a0 a1 a9 hC hO
    have hS := Chg.refl [] n7
    refine xms 0 rfl rfl hS (xms 1 rfl rfl hS (xq 2 _ rfl (zn Sl34 (ZH a1) rfl) hS (xms 3 rfl rfl hS (xq 4 _ rfl (zn Sl34 (ZH a9) rfl) hS (xq 5 _ rfl (ysu rfl rfl) hS ?_)))))
    obtain ⟨y138, n8, hs⟩ := bind_some hs
    obtain ⟨n9, o0, o1, b6, q4, o2, q5⟩ := UH Tryz.underlying34 Sz3 (((Frz.os Frz.int)).val a1 (M' := (Less M b2)) Less.sub Less.not) n8
    refine xq 6 (sv n9 o0 o1) rfl (ue rfl rfl rfl (o2 rfl _)) hS (xl 8 rfl (ldxw rfl Ag30 a0 Sz30) hS (xmi 9 rfl rfl hS (xms 10 rfl rfl hS (zI (i := 7) (by kernel_rfl) ?_))))
    have hO := hO.fr1
    obtain ⟨r141, o3, hs⟩ := bind_some hs
    refine zL (b := false) rfl Bd75 rfl (XA (M := (Less M b2)) y138 b6 hO.less.fut o3) rfl (by rintro _ _ _ ⟨o4, o5, o6, j1, rfl, b0, b7, j2⟩; exact hS.ext b0) ?_
    rintro _ q6 ⟨o4, o5, o6, j1, rfl, b0, b7, j2⟩
    obtain ⟨h0, h1, h2, a0, a1, a9, b6, hC⟩ := xt8 b0 h0 h1 h2 a0 a1 a9 b6 hC
    have hO := Own.join0 hO b0 j2
    have hO := hO.perm (R := j1 ++ (b2 ++ (d5 ++ ([a4] ++ [])))) (by simp)
    have b7 := b7.free (M' := M) (Free.os Free.int)
    have hS := hS.ext b0
    refine zI (i := 11) (by kernel_rfl) ?_
    have hO := hO.fr2
    obtain ⟨r144, o7, hs⟩ := bind_some hs
    refine zL (b := false) rfl Bd53 rfl (Wf (M := (Less M d5)) (a_.1, a_.2) (w64 ((-1) - x98)) s115.1 (h0.sub Less.sub) (((Frz.os Frz.int)).val a9 Less.sub Less.not) hO.less.fut o7) rfl (by rintro _ _ _ ⟨rfl, a8⟩; exact hS.ext a8) ?_
    rintro _ o8 ⟨rfl, a8⟩
    obtain ⟨h0, h1, h2, a0, a1, a9, b6, b7⟩ := xt8 a8 h0 h1 h2 a0 a1 a9 b6 b7
    obtain ⟨hC, hO, hS⟩ := xt3 a8 hC hO hS
    refine zI (i := 12) (by kernel_rfl) ?_
    obtain ⟨j3, g4, o9, j4, b1, j5⟩ := zg o8 [(iv r144)] 3
    refine zR (w' := j3) (b := false) (sv (some ⟨g4, 0, none⟩) 1 1) rfl (zz rfl (by rw [o9, j4]; kernel_rfl)) rfl (fun _ => hS.ext b1) ?_
    obtain ⟨h0, h1, h2, a0, a1, a9, b6, b7⟩ := xt8 b1 h0 h1 h2 a0 a1 a9 b6 b7
    have hC := hC.ext b1
    have hO := hO.new1 b1 j4 j5.lt
    have g5 := os1 (M := M) j5
    have hS := hS.ext b1
    refine zI (i := 13) (by kernel_rfl) ?_
    obtain ⟨y148, p0, hs⟩ := bind_some hs
    have hO := hO.fr2
    obtain ⟨g6, g7, g8, p1, p2, p3, b8, p4, g9⟩ := ya Rw34 p0 b7 g5 hO.inM (fun g hg hq => hO.apart g hq (zD hg))
    have b9 := zC b7
    refine zR (w' := p1) (b := true) (sv g6 g7 g8) rfl (zN rfl rfl (p3 _)) rfl (fun h => nomatch h) ?_
    have hO := hO.fr1.fr1
    have h0 := h0.mt b8 hO b9
    have h1 := h1.mt b8 hO b9
    have h2 := h2.mt b8 hO b9
    have a0 := a0.ap b8 hO b9 (zj (zj (zj mS)))
    have a1 := a1.ma b8 hO b9 (fun _ e => (zj (zj (zD (e)))))
    have a9 := a9.ma b8 hO b9 (fun _ e => (zj (zD (e))))
    have b6 := b6.mut b8 (fun g hg => ⟨hO.inM g (b9 g hg), fun e => hO.apart g (b9 g hg) (zj (zj (zD (e))))⟩) (fun _ _ h => nomatch h)
    have hC := hC.st b8 hO b9
    have hO := hO.eat b8 p4 (zu g9) g9.fpl
    refine x_p 14 (sv g6 g7 g8) rfl (by kernel_rfl) (fun _ => zA rfl) (fun h => nomatch h) (xe ?_)
    clear hS
    refine ze (mi rfl (za _ (ysu rfl rfl) (ai rfl (zb ?_))))
    cases hs
    have hO := hO.fr1.drop.fr1.drop.fr1.fr1
    exact ⟨_, g6, g7, g8, p2, fr_m 79 rfl, hC, hO, h0, h1, h2, a0, g9⟩
  refine zi (cb e3) (wp_exit ?_)
  cases hs
  have hO := hO.fr1.fr1
  exact ⟨rfl, _, a5, a6, a7, b2, fr_m 79 rfl, hC, hO, h0, h1, h2, a0, a1⟩
 ·skip
  have hO := hO.fr1.fr1
  exact ⟨_, (some ⟨c2, 0, none⟩), 0, 0, [c2], fr_m 79 rfl, hC, hO, h0, h1, h2, a0, e1⟩
 cases o79 with
 | nx _ => exact True.intro
 | rt r_ =>
  have hs := zq hs
  intro g3 h3 hK
  cases hs
  exact hK
 | br s75 =>
  have hs := zp hs
  rintro g3 a3 ⟨σ, d7, d8, d9, e2, rfl, hC, hO, h0, h1, h2, a0, p5⟩
  refine c_sr (ms rfl ?_)
  obtain ⟨x150, p6, hs⟩ := bind_some hs
  obtain ⟨p7, q7, q8, q9, p8, p9, r0⟩ := zS Sl34 Sz3 p5 p6
  refine za _ (ip p8 rfl rfl) (za (iv x150) (zo rfl ((zm Ag3 Sz3 p9) _ (Chg.refl _ _))) (ai rfl (zb (wp_ret ?_))))
  cases hs
  exact ⟨_, fr_m 79 rfl, hC⟩

def wr (M : Nat → Prop) (w0 : World) (r : (List Int)) (a : Act) (w : World) : Prop :=
  ∃ (σ : Nv) (ra0 : OA) (rn0 rc0 : Nat) (rf0 : List Nat), a = fr 35 (ovl σ [(6, (sv ra0 rn0 rc0))]) ∧ Chg [] w0 w ∧ (RT.os 3 ri).val M w (sv ra0 rn0 rc0) r rf0 ∧ Own (Nw w0 []) (fun _ => True) w (rf0 ++ [])
def YA (a_ : Int × (List (Int × (List Int)))) (k : Int) (all : List (List Int)) : Option ((List Int)) :=
  (Ye (a_.1, a_.2) k).bind fun r7 =>
  (forC (S := (List Int)) (R := (List Int)) (fun k24 s22 =>
  (idx r7 k24).bind fun x32 =>
  (zW all x32).bind fun r37 =>
  (app s22 ([r37.1])).bind fun y41 =>
  some (.nx y41)) 0 k ([])).bind fun o26 => after o26 (fun r_ => some r_) (fun s22 =>
  some s22)
theorem Vq {M : Nat → Prop} {w : World} {pa0 : OA} {pn0 pc0 : Nat} {pa1 : OA} {pn1 pc1 : Nat} (a_ : tA) (k : Int) (all : tM) (h0 : rp.val M w (sv pa0 pn0 pc0) a_.2 []) (h1 : rm.val M w (sv pa1 pn1 pc1) all []) (hM : Hm w M) {r : (List Int)} (hs : YA a_ k all = some r) :
    Gives Tryz.prog 49 [(.agg #[(iv a_.1), (sv pa0 pn0 pc0)]), (iv k), (sv pa1 pn1 pc1)] w (fun v w' => ∃ (ra0 : OA) (rn0 rc0 : Nat) (rf0 : List Nat), v = (sv ra0 rn0 rc0) ∧ Chg [] w w' ∧ (RT.os 3 ri).val M w' (sv ra0 rn0 rc0) r rf0 ∧ Own (Nw w []) (fun _ => True) w' (rf0 ++ [])) := by
 refine zr Tryz.func49 rfl Tryz.ntmps49 (nl rfl) ?_
 have hO := Own.start (N := Nw w []) hM Nw.fut
 have hC := Chg.refl [] w
 unfold YA at hs
 refine wp_k (K := (wr M w r)) (by rintro _ _ ⟨σ, ra0, rn0, rc0, rf0, rfl, hrest⟩; exact Za Tryz.results49 (zB rfl) ⟨ra0, rn0, rc0, rf0, rfl, hrest⟩) (c_sr ?_)
 obtain ⟨d4, d5, e4, d6, c1, a5⟩ := zg w [(iv a_.1), (sv pa0 pn0 pc0)] 30
 refine za (w' := d4) (pq d5 0) (Zj rfl (by rw [e4, d6]; kernel_rfl)) ?_
 obtain ⟨h0, h1, hC⟩ := xt3 c1 h0 h1 hC
 have hO := hO.new1 c1 d6 a5.lt
 refine ax rfl (zb (c_sr ?_))
 obtain ⟨d7, a4, e5, d8, b4, d9⟩ := zg d4 [] 3
 refine za (w' := d7) (sv (some ⟨a4, 0, none⟩) 0 0) (zz rfl (by rw [e5, d8]; kernel_rfl)) ?_
 obtain ⟨h0, h1, a5, hC⟩ := xt4 b4 h0 h1 a5 hC
 have hO := hO.new1 b4 d8 d9.lt
 have b5 := os0 (r := ri) (M := M) d9
 refine za _ (ldw rfl Ag30 a5 Sz30) (mi rfl ?_)
 obtain ⟨r7, e6, hs⟩ := bind_some hs
 refine zy Bd44 rfl (XR (M := M) (a_.1, a_.2) k h0 hO.fut e6) ?_
 rintro _ g7 ⟨b6, b7, b8, a6, rfl, a7, a1, e7⟩
 obtain ⟨h0, h1, a5, b5, hC⟩ := xt5 a7 h0 h1 a5 b5 hC
 have hO := Own.join0 hO a7 e7
 have hO := hO.perm (R := a6 ++ ([a4] ++ ([d5] ++ []))) (by simp)
 refine ax rfl (ax rfl (zb (zd (c_sr (ai rfl (zb ?_))))))
 have hO := hO.fr2.drop
 obtain ⟨o26, e8, hs⟩ := bind_some hs
 refine wp_block (zT (id := 0) k (I := fun k24 s22 a a0 => ∃ (σ : Nv) (a8 : OA) (a9 : Nat) (b0 : Nat) (b9 : List Nat), a = fr 35 (ovl σ [(1, (iv k)), (2, (sv pa1 pn1 pc1)), (7, (sv a8 a9 b0)), (8, (sv b6 b7 b8)), (9, (iv k24))]) ∧ Chg [] w a0 ∧ Own (Nw w []) M a0 (b9 ++ (a6 ++ [])) ∧ rm.val M a0 (sv pa1 pn1 pc1) all [] ∧ (RT.os 34 (RT.os 3 ri)).val M a0 (sv b6 b7 b8) r7 a6 ∧ (RT.os 3 ri).val M a0 (sv a8 a9 b0) s22 b9) (J := fun s22 a a0 => ∃ (σ : Nv) (b1 : OA) (b2 : Nat) (b3 : Nat) (c2 : List Nat), a = fr 35 (ovl σ [(7, (sv b1 b2 b3))]) ∧ Chg [] w a0 ∧ Own (Nw w []) M a0 (c2 ++ (a6 ++ [])) ∧ rm.val M a0 (sv pa1 pn1 pc1) all [] ∧ (RT.os 34 (RT.os 3 ri)).val M a0 (sv b6 b7 b8) r7 a6 ∧ (RT.os 3 ri).val M a0 (sv b1 b2 b3) s22 c2) (K := (wr M w)) ?_ ?_ 0 [] o26 _ _ ?_ e8 ?_)
 ·rintro k24 s22 a a0 ⟨σ, a8, a9, b0, b9, rfl, hC, hO, h1, a1, a3⟩ hlt
  refine zd (c_sr (mi rfl (mi rfl (za _ (zw rfl rfl) (zb (zi (df hlt) (wp_exit ?_)))))))
  have hO := hO.fr1.fr1
  exact ⟨rfl, _, a8, a9, b0, b9, fr_m 35 rfl, hC, hO, h1, a1, a3⟩
 ·rintro k24 s22 o26 a a0 ⟨σ, a8, a9, b0, b9, rfl, hC, hO, h1, a1, a3⟩ hlt hw hs
  refine zd (c_sr (mi rfl (mi rfl (za _ (zw rfl rfl) (zb (zh (dt hlt) (wp_skip (zd (wp_block (c_sr (ms rfl (ms rfl (mi rfl ?_)))))))))))))
  obtain ⟨x32, e9, hs⟩ := bind_some hs
  obtain ⟨f0, g8, g9, h2, f1, c5, f2⟩ := zS Sl45 Sz34 a1 e9
  have c6 := ZG (Frz.os Frz.int) c5 f2
  refine za _ (ip f1 rfl rfl) ?_
  obtain ⟨h3, f3, hrow34, c3⟩ := ZR Ag34 Sz34 rfl rfl c6
  obtain ⟨f4, f5, f6, rfl⟩ := yl c3
  refine za (sv f4 f5 f6) (zo rfl (f3 _ (Chg.refl _ _))) ?_
  have hO := hO.fr1
  obtain ⟨r37, f7, hs⟩ := bind_some hs
  refine zy Bd50 rfl (Yq (M := (Less M a6)) all x32 (h1.sub Less.sub) c3 hO.less.fut f7) ?_
  rintro _ f8 ⟨rfl, a2⟩
  obtain ⟨h1, a1, a3, c3, hrow34, c5, c6, hC⟩ := xt8 a2 h1 a1 a3 c3 hrow34 c5 c6 hC
  have hO := hO.ext a2
  refine za (.tuple #[(iv r37.1), (.bool r37.2)]) (zx rfl) (za (iv r37.1) (zH rfl (by kernel_rfl)) (za (.bool r37.2) (zH rfl (by kernel_rfl)) (ai rfl (ab rfl (zb (ze (ms rfl (mi rfl ?_))))))))
  obtain ⟨e0, c7, f9, e1, c0, e2⟩ := zg f8 [(iv r37.1)] 3
  refine za (w' := e0) (sv (some ⟨c7, 0, none⟩) 1 1) (zz rfl (by rw [f9, e1]; kernel_rfl)) ?_
  obtain ⟨h1, a1, a3, hC⟩ := xt4 c0 h1 a1 a3 hC
  have hO := hO.new1 c0 e1 e2.lt
  have c8 := os1 (M := M) e2
  obtain ⟨y41, g0, hs⟩ := bind_some hs
  have hO := hO.fr2
  obtain ⟨c9, d0, d1, g1, g2, g3, c4, g4, d2⟩ := ya Rw34 g0 a3 c8 hO.inM (fun g hg hq => hO.apart g hq (zD hg))
  have d3 := zC a3
  refine za (w' := g1) (sv c9 d0 d1) (zN rfl rfl (g3 _)) ?_
  have hO := hO.fr1.fr1
  have h1 := h1.mt c4 hO d3
  have a1 := a1.ma c4 hO d3 (fun _ e => (zj (zD (e))))
  have hC := hC.st c4 hO d3
  have hO := hO.eat c4 g4 (zu d2) d2.fpl
  refine ax rfl (zb (ze (mi rfl (za _ (yad rfl rfl) (ai rfl (zb ?_))))))
  cases hs
  have hO := hO.fr1.fr1
  exact ⟨_, c9, d0, d1, g2, zG 35 ⟨rfl, rfl, rfl, rfl, congrArg (Value.int .i64) hw, trivial⟩, hC, hO, h1, a1, d2⟩
 ·skip
  have hO := hO.fr1
  exact ⟨_, (some ⟨a4, 0, none⟩), 0, 0, [a4], fr_m 35 rfl, hC, hO, h1, a1, b5⟩
 cases o26 with
 | nx _ => exact True.intro
 | rt r_ =>
  have hs := zq hs
  intro g5 e3 hK
  cases hs
  exact hK
 | br s22 =>
  have hs := zp hs
  rintro g5 a0 ⟨σ, b1, b2, b3, c2, rfl, hC, hO, h1, a1, g6⟩
  refine c_sr (ms rfl (ax rfl (zb (wp_ret ?_))))
  cases hs
  have hO := hO.fr1.drop
  exact ⟨_, b1, b2, b3, c2, fr_m 35 rfl, hC, g6, hO.top⟩

def wV (M : Nat → Prop) (w0 : World) (r : (List Int)) (a : Act) (w : World) : Prop :=
  ∃ (σ : Nv) (ra0 : OA) (rn0 rc0 : Nat) (rf0 : List Nat), a = fr 25 (ovl σ [(4, (sv ra0 rn0 rc0))]) ∧ Chg [] w0 w ∧ (RT.os 3 ri).val M w (sv ra0 rn0 rc0) r rf0 ∧ Own (Nw w0 []) (fun _ => True) w (rf0 ++ [])
def ZX (f : List Int) (args : List Int) : Option ((List Int)) :=
  (forC (S := (List Int)) (R := (List Int)) (fun k18 s16 =>
  (idx args k18).bind fun x26 =>
  (idx f x26).bind fun x28 =>
  (app s16 ([x28])).bind fun y33 =>
  some (.nx y33)) 0 (args.length : Int) ([])).bind fun o20 => after o20 (fun r_ => some r_) (fun s16 =>
  some s16)
theorem VN {M : Nat → Prop} {w : World} {pa0 : OA} {pn0 pc0 : Nat} {pa1 : OA} {pn1 pc1 : Nat} (f : List Int) (args : List Int) (h0 : rl.val M w (sv pa0 pn0 pc0) f []) (h1 : rl.val M w (sv pa1 pn1 pc1) args []) (hM : Hm w M) {r : (List Int)} (hs : ZX f args = some r) :
    Gives Tryz.prog 54 [(sv pa0 pn0 pc0), (sv pa1 pn1 pc1)] w (fun v w' => ∃ (ra0 : OA) (rn0 rc0 : Nat) (rf0 : List Nat), v = (sv ra0 rn0 rc0) ∧ Chg [] w w' ∧ (RT.os 3 ri).val M w' (sv ra0 rn0 rc0) r rf0 ∧ Own (Nw w []) (fun _ => True) w' (rf0 ++ [])) := by
 refine zr Tryz.func54 rfl Tryz.ntmps54 (nl rfl) ?_
 have hO := Own.start (N := Nw w []) hM Nw.fut
 have hC := Chg.refl [] w
 unfold ZX at hs
 refine wp_k (K := (wV M w r)) (by rintro _ _ ⟨σ, ra0, rn0, rc0, rf0, rfl, hrest⟩; exact Za Tryz.results54 (zB rfl) ⟨ra0, rn0, rc0, rf0, rfl, hrest⟩) (c_sr (ax rfl (zb (c_sr ?_))))
 obtain ⟨c4, a2, d1, c5, b1, c6⟩ := zg w [] 3
 refine za (w' := c4) (sv (some ⟨a2, 0, none⟩) 0 0) (zz rfl (by rw [d1, c5]; kernel_rfl)) ?_
 obtain ⟨h0, h1, hC⟩ := xt3 b1 h0 h1 hC
 have hO := hO.new1 b1 c5 c6.lt
 have b4 := os0 (r := ri) (M := M) c6
 refine ax rfl (zb (zd (c_sr (ai rfl (zb ?_)))))
 obtain ⟨o20, d2, hs⟩ := bind_some hs
 refine wp_block (zT (id := 0) (args.length : Int) (I := fun k18 s16 a a0 => ∃ (σ : Nv) (a3 : OA) (a4 : Nat) (a5 : Nat) (b0 : List Nat), a = fr 25 (ovl σ [(0, (sv pa0 pn0 pc0)), (1, (sv pa1 pn1 pc1)), (5, (sv a3 a4 a5)), (6, (iv k18))]) ∧ Chg [] w a0 ∧ Own (Nw w []) M a0 (b0 ++ []) ∧ rl.val M a0 (sv pa0 pn0 pc0) f [] ∧ rl.val M a0 (sv pa1 pn1 pc1) args [] ∧ (RT.os 3 ri).val M a0 (sv a3 a4 a5) s16 b0) (J := fun s16 a a0 => ∃ (σ : Nv) (a6 : OA) (a7 : Nat) (a8 : Nat) (b2 : List Nat), a = fr 25 (ovl σ [(5, (sv a6 a7 a8))]) ∧ Chg [] w a0 ∧ Own (Nw w []) M a0 (b2 ++ []) ∧ rl.val M a0 (sv pa0 pn0 pc0) f [] ∧ rl.val M a0 (sv pa1 pn1 pc1) args [] ∧ (RT.os 3 ri).val M a0 (sv a6 a7 a8) s16 b2) (K := (wV M w)) ?_ ?_ 0 [] o20 _ _ ?_ d2 ?_)
 ·rintro k18 s16 a a0 ⟨σ, a3, a4, a5, b0, rfl, hC, hO, h0, h1, a9⟩ hlt
  refine zd (c_sr (mi rfl (ms rfl (za _ (zn Sl34 (zt h1) rfl) (za _ (zw rfl rfl) (zb (zi (df hlt) (wp_exit ?_))))))))
  exact ⟨rfl, _, a3, a4, a5, b0, fr_m 25 rfl, hC, hO, h0, h1, a9⟩
 ·rintro k18 s16 o20 a a0 ⟨σ, a3, a4, a5, b0, rfl, hC, hO, h0, h1, a9⟩ hlt hw hs
  refine zd (c_sr (mi rfl (ms rfl (za _ (zn Sl34 (zt h1) rfl) (za _ (zw rfl rfl) (zb (zh (dt hlt) (wp_skip (zd (wp_block (ze (ms rfl (ms rfl (ms rfl (mi rfl ?_)))))))))))))))
  obtain ⟨x26, d3, hs⟩ := bind_some hs
  obtain ⟨d4, d5, d6, b5⟩ := zK Sl34 Sz3 h1 d3
  refine za _ (ip d6 rfl rfl) (za (iv x26) (zo rfl ((zm Ag3 Sz3 b5) _ (Chg.refl _ _))) ?_)
  obtain ⟨x28, d7, hs⟩ := bind_some hs
  obtain ⟨d8, d9, e0, b6⟩ := zK Sl34 Sz3 h0 d7
  refine za _ (ip e0 rfl rfl) (za (iv x28) (zo rfl ((zm Ag3 Sz3 b6) _ (Chg.refl _ _))) ?_)
  obtain ⟨c7, b7, e1, c8, a1, c9⟩ := zg a0 [(iv x28)] 3
  refine za (w' := c7) (sv (some ⟨b7, 0, none⟩) 1 1) (zz rfl (by rw [e1, c8]; kernel_rfl)) ?_
  obtain ⟨h0, h1, a9, b5, b6, hC⟩ := xt6 a1 h0 h1 a9 b5 b6 hC
  have hO := hO.new1 a1 c8 c9.lt
  have b8 := os1 (M := M) c9
  obtain ⟨y33, e2, hs⟩ := bind_some hs
  have hO := hO.fr1
  obtain ⟨b9, c0, c1, e3, e4, e5, b3, e6, c2⟩ := ya Rw34 e2 a9 b8 hO.inM (fun g hg hq => hO.apart g hq (zD hg))
  have c3 := zC a9
  refine za (w' := e3) (sv b9 c0 c1) (zN rfl rfl (e5 _)) ?_
  have hO := hO.fr1.fr1
  have h0 := h0.mt b3 hO c3
  have h1 := h1.mt b3 hO c3
  have hC := hC.st b3 hO c3
  have hO := hO.eat b3 e6 (zu c2) c2.fpl
  refine ax rfl (zb (ze (mi rfl (za _ (yad rfl rfl) (ai rfl (zb ?_))))))
  cases hs
  exact ⟨_, b9, c0, c1, e4, zG 25 ⟨rfl, rfl, rfl, congrArg (Value.int .i64) hw, trivial⟩, hC, hO, h0, h1, c2⟩
 ·skip
  exact ⟨_, (some ⟨a2, 0, none⟩), 0, 0, [a2], fr_m 25 rfl, hC, hO, h0, h1, b4⟩
 cases o20 with
 | nx _ => exact True.intro
 | rt r_ =>
  have hs := zq hs
  intro e7 d0 hK
  cases hs
  exact hK
 | br s16 =>
  have hs := zp hs
  rintro e7 a0 ⟨σ, a6, a7, a8, b2, rfl, hC, hO, h0, h1, e8⟩
  refine c_sr (ms rfl (ax rfl (zb (wp_ret ?_))))
  cases hs
  exact ⟨_, a6, a7, a8, b2, fr_m 25 rfl, hC, e8, hO.top⟩

theorem Bd48 : zF Tryz.prog 48 := zJ Tryz.func48 (by kernel_rfl) rfl

theorem Bd49 : zF Tryz.prog 49 := zJ Tryz.func49 (by kernel_rfl) rfl

theorem Bd54 : zF Tryz.prog 54 := zJ Tryz.func54 (by kernel_rfl) rfl

def YB (M : Nat → Prop) (w0 : World) (r : (List Int) × Bool) (a : Act) (w : World) : Prop :=
  ∃ (σ : Nv) (ra0 : OA) (rn0 rc0 : Nat) (rf0 : List Nat), a = fr 124 (ovl σ [(12, (sv ra0 rn0 rc0)), (13, (.bool r.2))]) ∧ Chg [] w0 w ∧ (RT.os 3 ri).val M w (sv ra0 rn0 rc0) r.1 rf0 ∧ Own (Nw w0 []) (fun _ => True) w (rf0 ++ [])
def yX (a_ : Int × (List (Int × (List Int)))) (k : Int) (all : List (List Int)) (terms : List (List Int)) (b : Int × (List (Int × (List Int)))) (images : List Int) : Option ((List Int) × Bool) :=
  (forC (S := (List Int)) (R := (List Int) × Bool) (fun k26 s24 =>
  (idx terms k26).bind fun x35 =>
  (YW (b.1, b.2) x35 images).bind fun r40 =>
  (app s24 ([r40])).bind fun y44 =>
  some (.nx y44)) 0 (terms.length : Int) ([])).bind fun o28 => after o28 (fun r_ => some r_) (fun s24 =>
  (YA (a_.1, a_.2) k all).bind fun r47 =>
  (forC (S := Unit) (R := (List Int) × Bool) (fun k61 s59 =>
  (idx r47 k61).bind fun x66 =>
  (idx s24 x66).bind fun x68 =>
  (idx images k61).bind fun x70 =>
  (bif (x68 != x70) then some (.rt ([], false)) else some (.nx ()))) 0 k ()).bind fun o63 => after o63 (fun r_ => some r_) (fun s59 =>
  (forC (S := Unit) (R := (List Int) × Bool) (fun k490 s488 =>
  ((idx a_.2 k490).bind fun x530 =>
  (idx a_.2 k490).bind fun x533 =>
  (bif (x533.1 == 0) then (mks x530.1 (0 : Int)).bind fun y538 =>
  some (y538, true) else (mks x530.1 (0 : Int)).bind fun y541 =>
  some (y541, (decide (0 < (all.length : Int)))))).bind fun s524 =>
  (iter (S := (List Int) × Bool) (R := (List Int) × Bool) (fun s643 =>
  (bif s643.2 then (ZZ all s643.1).bind fun r671 =>
  (Zl a_.1 k).bind fun r674 =>
  (zU (a_.1, a_.2) k490 r671 r674).bind fun r676 =>
  (zW all r676).bind fun r679 =>
  (idx s24 r679.1).bind fun x689 =>
  (ZX s24 s643.1).bind fun r692 =>
  (ZS (b.1, b.2) k490 r692).bind fun r695 =>
  (bif (x689 != r695) then some (.rt ([], false)) else (zV s643.1 (all.length : Int)).bind fun r700 =>
  some (.nx (r700.1, r700.2))) else some (.br (s643.1, s643.2)))) FU (s524.1, s524.2)).bind fun o647 => after o647 (fun r_ => some (.rt r_)) (fun s643 =>
  some (.nx ()))) 0 (a_.2.length : Int) ()).bind fun o492 => after o492 (fun r_ => some r_) (fun s488 =>
  some (s24, true))))
theorem Vg {M : Nat → Prop} {w : World} {pa0 : OA} {pn0 pc0 : Nat} {pa1 : OA} {pn1 pc1 : Nat} {pa2 : OA} {pn2 pc2 : Nat} {pa3 : OA} {pn3 pc3 : Nat} {pa4 : OA} {pn4 pc4 : Nat} (a_ : tA) (k : Int) (all : tM) (terms : tM) (b : tA) (images : List Int) (h0 : rp.val M w (sv pa0 pn0 pc0) a_.2 []) (h1 : rm.val M w (sv pa1 pn1 pc1) all []) (h2 : rm.val M w (sv pa2 pn2 pc2) terms []) (h3 : rp.val M w (sv pa3 pn3 pc3) b.2 []) (h4 : rl.val M w (sv pa4 pn4 pc4) images []) (hM : Hm w M) {r : (List Int) × Bool} (hs : yX a_ k all terms b images = some r) :
    Gives Tryz.prog 25 [(.agg #[(iv a_.1), (sv pa0 pn0 pc0)]), (iv k), (sv pa1 pn1 pc1), (sv pa2 pn2 pc2), (.agg #[(iv b.1), (sv pa3 pn3 pc3)]), (sv pa4 pn4 pc4)] w (fun v w' => ∃ (ra0 : OA) (rn0 rc0 : Nat) (rf0 : List Nat), v = (.tuple #[(sv ra0 rn0 rc0), (.bool r.2)]) ∧ Chg [] w w' ∧ (RT.os 3 ri).val M w' (sv ra0 rn0 rc0) r.1 rf0 ∧ Own (Nw w []) (fun _ => True) w' (rf0 ++ [])) := by
 refine zr Tryz.func25 rfl Tryz.ntmps25 (nl rfl) ?_
 have hO := Own.start (N := Nw w []) hM Nw.fut
 have hC := Chg.refl [] w
 unfold yX at hs
 refine wp_k (K := (YB M w r)) (by rintro _ _ ⟨σ, ra0, rn0, rc0, rf0, rfl, hrest⟩; exact wb Tryz.results25 (zB rfl) (zB rfl) ⟨ra0, rn0, rc0, rf0, rfl, hrest⟩) (c_sr ?_)
 obtain ⟨l8, a3, o6, l9, f3, a0⟩ := zg w [(iv a_.1), (sv pa0 pn0 pc0)] 30
 refine za (w' := l8) (pq a3 0) (Zj rfl (by rw [o6, l9]; kernel_rfl)) ?_
 obtain ⟨h0, h1, h2, h3, h4, hC⟩ := xt6 f3 h0 h1 h2 h3 h4 hC
 have hO := hO.new1 f3 l9 a0.lt
 obtain ⟨m0, a4, o7, m1, f0, a1⟩ := zg l8 [(iv b.1), (sv pa3 pn3 pc3)] 30
 refine za (w' := m0) (pq a4 0) (Zj rfl (by rw [o7, m1]; kernel_rfl)) ?_
 obtain ⟨h0, h1, h2, h3, h4, a0, hC⟩ := xt7 f0 h0 h1 h2 h3 h4 a0 hC
 have hO := hO.new1 f0 m1 a1.lt
 refine ax rfl (ab rfl (zb (c_sr ?_)))
 obtain ⟨m2, f8, o8, m3, e3, m4⟩ := zg m0 [] 3
 refine za (w' := m2) (sv (some ⟨f8, 0, none⟩) 0 0) (zz rfl (by rw [o8, m3]; kernel_rfl)) ?_
 obtain ⟨h0, h1, h2, h3, h4, a0, a1, hC⟩ := xt8 e3 h0 h1 h2 h3 h4 a0 a1 hC
 have hO := hO.new1 e3 m3 m4.lt
 have j3 := os0 (r := ri) (M := M) m4
 refine ax rfl (zb (zd (c_sr (ai rfl (zb ?_)))))
 obtain ⟨o28, o9, hs⟩ := bind_some hs
 refine wp_block (zT (id := 0) (terms.length : Int) (I := fun k26 s24 a a5 => ∃ (σ : Nv) (f9 : OA) (g0 : Nat) (g1 : Nat) (g4 : List Nat), a = fr 124 (ovl σ [(1, (iv k)), (2, (sv pa1 pn1 pc1)), (3, (sv pa2 pn2 pc2)), (5, (sv pa4 pn4 pc4)), (6, (pq a3 0)), (10, (pq a4 0)), (14, (sv f9 g0 g1)), (15, (iv k26))]) ∧ Chg [] w a5 ∧ Own (Nw w []) M a5 (g4 ++ ([a4] ++ ([a3] ++ []))) ∧ rp.val M a5 (sv pa0 pn0 pc0) a_.2 [] ∧ rm.val M a5 (sv pa1 pn1 pc1) all [] ∧ rm.val M a5 (sv pa2 pn2 pc2) terms [] ∧ rp.val M a5 (sv pa3 pn3 pc3) b.2 [] ∧ rl.val M a5 (sv pa4 pn4 pc4) images [] ∧ BoxV a5 a3 30 [(iv a_.1), (sv pa0 pn0 pc0)] ∧ BoxV a5 a4 30 [(iv b.1), (sv pa3 pn3 pc3)] ∧ (RT.os 3 ri).val M a5 (sv f9 g0 g1) s24 g4) (J := fun s24 a a5 => ∃ (σ : Nv) (a7 : OA) (a8 : Nat) (a9 : Nat) (b0 : List Nat), a = fr 124 (ovl σ [(1, (iv k)), (2, (sv pa1 pn1 pc1)), (5, (sv pa4 pn4 pc4)), (6, (pq a3 0)), (10, (pq a4 0)), (14, (sv a7 a8 a9))]) ∧ Chg [] w a5 ∧ Own (Nw w []) M a5 (b0 ++ ([a4] ++ ([a3] ++ []))) ∧ rp.val M a5 (sv pa0 pn0 pc0) a_.2 [] ∧ rm.val M a5 (sv pa1 pn1 pc1) all [] ∧ rm.val M a5 (sv pa2 pn2 pc2) terms [] ∧ rp.val M a5 (sv pa3 pn3 pc3) b.2 [] ∧ rl.val M a5 (sv pa4 pn4 pc4) images [] ∧ BoxV a5 a3 30 [(iv a_.1), (sv pa0 pn0 pc0)] ∧ BoxV a5 a4 30 [(iv b.1), (sv pa3 pn3 pc3)] ∧ (RT.os 3 ri).val M a5 (sv a7 a8 a9) s24 b0) (K := (YB M w)) ?_ ?_ 0 [] o28 _ _ ?_ o9 ?_)
 ·rintro k26 s24 a a5 ⟨σ, f9, g0, g1, g4, rfl, hC, hO, h0, h1, h2, h3, h4, a0, a1, d7⟩ hlt
  refine zd (c_sr (mi rfl (ms rfl (za _ (zn Sl45 (zt h2) rfl) (za _ (zw rfl rfl) (zb (zi (df hlt) (wp_exit ?_))))))))
  have hO := hO.fr2.fr2.fr2
  exact ⟨rfl, _, f9, g0, g1, g4, fr_m 124 rfl, hC, hO, h0, h1, h2, h3, h4, a0, a1, d7⟩
 ·rintro k26 s24 o28 a a5 ⟨σ, f9, g0, g1, g4, rfl, hC, hO, h0, h1, h2, h3, h4, a0, a1, d7⟩ hlt hw hs
  refine zd (c_sr (mi rfl (ms rfl (za _ (zn Sl45 (zt h2) rfl) (za _ (zw rfl rfl) (zb (zh (dt hlt) (wp_skip (zd (wp_block (zQ [9] Mx rfl ?_)))))))))))
  have d4 := Chg.drew a5
  generalize World.drew a5 = p0 at d4 ⊢
  obtain ⟨h0, h1, h2, h3, h4, a0, a1, d7⟩ := xt8 d4 h0 h1 h2 h3 h4 a0 a1 d7
  obtain ⟨hC, hO⟩ := xt2 d4 hC hO
  have hS := Chg.refl [] p0
  refine xms 0 rfl rfl hS (xl 1 rfl (ldxw rfl Ag30 a1 Sz30) hS (xms 2 rfl rfl hS (xmi 3 rfl rfl hS ?_)))
  obtain ⟨x35, p1, hs⟩ := bind_some hs
  obtain ⟨p2, p3, p4, g5⟩ := zK Sl45 Sz34 h2 p1
  refine xq 4 _ rfl (ip p4 rfl rfl) hS ?_
  obtain ⟨w6, p5, f1⟩ := Zc Ag34 Sz34 (fun _ => rfl) g5
  obtain ⟨p6, p7, p8, rfl⟩ := yl f1
  refine x_l 5 (sv p6 p7 p8) rfl (by kernel_rfl) (fun w' hw' => zo rfl (p5 w' hw')) hS (xms 6 rfl rfl hS (zI (i := 7) (by kernel_rfl) ?_))
  obtain ⟨r40, p9, hs⟩ := bind_some hs
  refine zL (b := false) rfl Bd48 rfl (uq (M := M) (b.1, b.2) x35 images h3 f1 h4 hO.fut p9) rfl (by rintro _ _ _ ⟨rfl, c0⟩; exact hS.ext c0) ?_
  rintro _ q0 ⟨rfl, c0⟩
  obtain ⟨h0, h1, h2, h3, h4, a0, a1, d7⟩ := xt8 c0 h0 h1 h2 h3 h4 a0 a1 d7
  obtain ⟨f1, g5, hC, hO, hS⟩ := xt5 c0 f1 g5 hC hO hS
  refine zI (i := 8) (by kernel_rfl) ?_
  obtain ⟨m5, j4, q1, m6, c2, m7⟩ := zg q0 [(iv r40)] 3
  refine zR (w' := m5) (b := false) (sv (some ⟨j4, 0, none⟩) 1 1) rfl (zz rfl (by rw [q1, m6]; kernel_rfl)) rfl (fun _ => hS.ext c2) ?_
  obtain ⟨h0, h1, h2, h3, h4, a0, a1, d7⟩ := xt8 c2 h0 h1 h2 h3 h4 a0 a1 d7
  obtain ⟨f1, g5, hC⟩ := xt3 c2 f1 g5 hC
  have hO := hO.new1 c2 m6 m7.lt
  have j5 := os1 (M := M) m7
  have hS := hS.ext c2
  refine zI (i := 9) (by kernel_rfl) ?_
  obtain ⟨y44, q2, hs⟩ := bind_some hs
  have hO := hO.fr1
  obtain ⟨j6, j7, j8, q3, q4, q5, d8, q6, j9⟩ := ya Rw34 q2 d7 j5 hO.inM (fun g hg hq => hO.apart g hq (zD hg))
  have e4 := zC d7
  refine zR (w' := q3) (b := true) (sv j6 j7 j8) rfl (zN rfl rfl (q5 _)) rfl (fun h => nomatch h) ?_
  have hO := hO.fr1.fr1
  have h0 := h0.mt d8 hO e4
  have h1 := h1.mt d8 hO e4
  have h2 := h2.mt d8 hO e4
  have h3 := h3.mt d8 hO e4
  have h4 := h4.mt d8 hO e4
  have a0 := a0.ap d8 hO e4 (zj (zj mS))
  have a1 := a1.ap d8 hO e4 (zj mS)
  have f1 := f1.mt d8 hO e4
  have hC := hC.st d8 hO e4
  have hO := hO.eat d8 q6 (zu j9) j9.fpl
  refine x_p 10 (sv j6 j7 j8) rfl (by kernel_rfl) (fun _ => zA rfl) (fun h => nomatch h) (xe ?_)
  clear hS
  refine ze (mi rfl (za _ (yad rfl rfl) (ai rfl (zb ?_))))
  cases hs
  have hO := hO.fr2.fr2.fr2
  exact ⟨_, j6, j7, j8, q4, zG 124 ⟨rfl, rfl, rfl, rfl, rfl, rfl, rfl, congrArg (Value.int .i64) hw, trivial⟩, hC, hO, h0, h1, h2, h3, h4, a0, a1, j9⟩
 ·skip
  have hO := hO.fr2.fr2.fr2
  exact ⟨_, (some ⟨f8, 0, none⟩), 0, 0, [f8], fr_m 124 rfl, hC, hO, h0, h1, h2, h3, h4, a0, a1, j3⟩
 cases o28 with
 | nx _ => exact True.intro
 | rt r_ =>
  have hs := zq hs
  intro f2 i0 hK
  cases hs
  exact hK
 | br s24 =>
  have hs := zp hs
  rintro f2 a5 ⟨σ, a7, a8, a9, b0, rfl, hC, hO, h0, h1, h2, h3, h4, a0, a1, a2⟩
  refine c_sr (za _ (ldw rfl Ag30 a0 Sz30) (mi rfl (ms rfl ?_)))
  obtain ⟨r47, q7, hs⟩ := bind_some hs
  refine zy Bd49 rfl (Vq (M := M) (a_.1, a_.2) k all h0 h1 hO.fut q7) ?_
  rintro _ w7 ⟨g6, g7, g8, g9, rfl, d9, d5, q8⟩
  obtain ⟨h0, h1, h2, h3, h4, a0, a1, a2⟩ := xt8 d9 h0 h1 h2 h3 h4 a0 a1 a2
  have hC := hC.ext d9
  have hO := Own.join0 hO d9 q8
  have hO := hO.perm (R := g9 ++ (b0 ++ ([a4] ++ ([a3] ++ [])))) (by simp)
  refine ax rfl (zb (zd (c_sr (ai rfl (zb ?_)))))
  obtain ⟨o63, q9, hs⟩ := bind_some hs
  refine wp_block (zT (id := 2) k (I := fun k61 s59 a a6 => ∃ (σ : Nv), a = fr 124 (ovl σ [(1, (iv k)), (2, (sv pa1 pn1 pc1)), (5, (sv pa4 pn4 pc4)), (6, (pq a3 0)), (10, (pq a4 0)), (14, (sv a7 a8 a9)), (16, (sv g6 g7 g8)), (17, (iv k61))]) ∧ Chg [] w a6 ∧ Own (Nw w []) M a6 (g9 ++ (b0 ++ ([a4] ++ ([a3] ++ [])))) ∧ rp.val M a6 (sv pa0 pn0 pc0) a_.2 [] ∧ rm.val M a6 (sv pa1 pn1 pc1) all [] ∧ rp.val M a6 (sv pa3 pn3 pc3) b.2 [] ∧ rl.val M a6 (sv pa4 pn4 pc4) images [] ∧ BoxV a6 a3 30 [(iv a_.1), (sv pa0 pn0 pc0)] ∧ BoxV a6 a4 30 [(iv b.1), (sv pa3 pn3 pc3)] ∧ (RT.os 3 ri).val M a6 (sv a7 a8 a9) s24 b0 ∧ (RT.os 3 ri).val M a6 (sv g6 g7 g8) r47 g9) (J := fun s59 a a6 => ∃ (σ : Nv), a = fr 124 (ovl σ [(1, (iv k)), (2, (sv pa1 pn1 pc1)), (6, (pq a3 0)), (10, (pq a4 0)), (14, (sv a7 a8 a9))]) ∧ Chg [] w a6 ∧ Own (Nw w []) M a6 (g9 ++ (b0 ++ ([a4] ++ ([a3] ++ [])))) ∧ rp.val M a6 (sv pa0 pn0 pc0) a_.2 [] ∧ rm.val M a6 (sv pa1 pn1 pc1) all [] ∧ rp.val M a6 (sv pa3 pn3 pc3) b.2 [] ∧ rl.val M a6 (sv pa4 pn4 pc4) images [] ∧ BoxV a6 a3 30 [(iv a_.1), (sv pa0 pn0 pc0)] ∧ BoxV a6 a4 30 [(iv b.1), (sv pa3 pn3 pc3)] ∧ (RT.os 3 ri).val M a6 (sv a7 a8 a9) s24 b0 ∧ (RT.os 3 ri).val M a6 (sv g6 g7 g8) r47 g9) (K := (YB M w)) ?_ ?_ 0 () o63 _ _ ?_ q9 ?_)
  ·rintro k61 s59 a a6 ⟨σ, rfl, hC, hO, h0, h1, h3, h4, a0, a1, a2, d5⟩ hlt
   refine zd (c_sr (mi rfl (mi rfl (za _ (zw rfl rfl) (zb (zi (df hlt) (wp_exit ?_)))))))
   have hO := hO.fr3.fr3.fr3.fr3
   exact ⟨rfl, _, fr_m 124 rfl, hC, hO, h0, h1, h3, h4, a0, a1, a2, d5⟩
  ·rintro k61 s59 o63 a a6 ⟨σ, rfl, hC, hO, h0, h1, h3, h4, a0, a1, a2, d5⟩ hlt hw hs
   refine zd (c_sr (mi rfl (mi rfl (za _ (zw rfl rfl) (zb (zh (dt hlt) (wp_skip (zd (wp_block (zd (zQ [] Mx rfl ?_)))))))))))
   have d6 := Chg.drew a6
   generalize World.drew a6 = m8 at d6 ⊢
   obtain ⟨h0, h1, h3, h4, a0, a1, a2, d5⟩ := xt8 d6 h0 h1 h3 h4 a0 a1 a2 d5
   obtain ⟨hC, hO⟩ := xt2 d6 hC hO
   have hS := Chg.refl [] m8
   refine xms 0 rfl rfl hS (xms 1 rfl rfl hS (xmi 2 rfl rfl hS ?_))
   obtain ⟨x66, r0, hs⟩ := bind_some hs
   obtain ⟨r1, w8, w9, x0, r2, k0, x1⟩ := zS Sl34 Sz3 d5 r0
   refine xq 3 _ rfl (ip r2 rfl rfl) hS (x_l 4 (iv x66) rfl (by kernel_rfl) (fun w' hw' => zo rfl ((zm Ag3 Sz3 k0) w' hw')) hS ?_)
   obtain ⟨x68, r3, hs⟩ := bind_some hs
   obtain ⟨r4, x2, x3, x4, r5, k1, x5⟩ := zS Sl34 Sz3 a2 r3
   refine xq 5 _ rfl (ip r5 rfl rfl) hS (x_l 6 (iv x68) rfl (by kernel_rfl) (fun w' hw' => zo rfl ((zm Ag3 Sz3 k1) w' hw')) hS (xms 7 rfl rfl hS (xmi 8 rfl rfl hS ?_)))
   obtain ⟨x70, r6, hs⟩ := bind_some hs
   obtain ⟨r7, r8, r9, k2⟩ := zK Sl34 Sz3 h4 r6
   refine xq 9 _ rfl (ip r9 rfl rfl) hS (x_l 10 (iv x70) rfl (by kernel_rfl) (fun w' hw' => zo rfl ((zm Ag3 Sz3 k2) w' hw')) hS (xq 11 (.bool (x68 != x70)) rfl (YJ rfl rfl) hS (xe ?_)))
   clear hS
   rcases zf hs with ⟨k3, hs⟩ | ⟨k3, hs⟩
   ·refine zh (cb k3) (c_sr ?_)
    obtain ⟨m9, g2, s0, n0, c7, n1⟩ := zg m8 [] 3
    refine za (w' := m9) (sv (some ⟨g2, 0, none⟩) 0 0) (zz rfl (by rw [s0, n0]; kernel_rfl)) ?_
    obtain ⟨h0, h1, h3, h4, a0, a1, a2, d5⟩ := xt8 c7 h0 h1 h3 h4 a0 a1 a2 d5
    obtain ⟨k0, k1, k2, hC⟩ := xt4 c7 k0 k1 k2 hC
    have hO := hO.new1 c7 n0 n1.lt
    have k4 := os0 (r := ri) (M := M) n1
    refine ax rfl (ab rfl (zb (wp_ret ?_)))
    cases hs
    have hO := hO.fr1.drop.fr1.drop.fr1.drop.fr1.drop
    exact ⟨_, (some ⟨g2, 0, none⟩), 0, 0, [g2], fr_m 124 rfl, hC, k4, hO.top⟩
   refine zi (cb k3) (wp_skip (ze (mi rfl (za _ (yad rfl rfl) (ai rfl (zb ?_))))))
   cases hs
   have hO := hO.fr3.fr3.fr3.fr3
   exact ⟨_, zG 124 ⟨rfl, rfl, rfl, rfl, rfl, rfl, rfl, congrArg (Value.int .i64) hw, trivial⟩, hC, hO, h0, h1, h3, h4, a0, a1, a2, d5⟩
  ·skip
   have hO := hO.fr3.fr3.fr3.fr3
   exact ⟨_, fr_m 124 rfl, hC, hO, h0, h1, h3, h4, a0, a1, a2, d5⟩
  cases o63 with
  | nx _ => exact True.intro
  | rt r_ =>
   have hs := zq hs
   intro f2 i0 hK
   cases hs
   exact hK
  | br s59 =>
   have hs := zp hs
   rintro f2 a6 ⟨σ, rfl, hC, hO, h0, h1, h3, h4, a0, a1, a2, d5⟩
   refine zd (c_sr (ai rfl (zb ?_)))
   have hO := hO.drop
   obtain ⟨o492, s1, hs⟩ := bind_some hs
   refine wp_block (zT (id := 4) (a_.2.length : Int) (I := fun k490 s488 a b3 => ∃ (σ : Nv) (b5 : Nat → Prop), a = fr 124 (ovl σ [(1, (iv k)), (2, (sv pa1 pn1 pc1)), (6, (pq a3 0)), (10, (pq a4 0)), (14, (sv a7 a8 a9)), (18, (iv k490))]) ∧ Chg [] w b3 ∧ Own (Nw w []) b5 b3 (b0 ++ ([a4] ++ ([a3] ++ []))) ∧ Keeps w M b5 ∧ rp.val b5 b3 (sv pa0 pn0 pc0) a_.2 [] ∧ rm.val b5 b3 (sv pa1 pn1 pc1) all [] ∧ rp.val b5 b3 (sv pa3 pn3 pc3) b.2 [] ∧ BoxV b3 a3 30 [(iv a_.1), (sv pa0 pn0 pc0)] ∧ BoxV b3 a4 30 [(iv b.1), (sv pa3 pn3 pc3)] ∧ (RT.os 3 ri).val b5 b3 (sv a7 a8 a9) s24 b0) (J := fun s488 a b3 => ∃ (σ : Nv) (f4 : Nat → Prop), a = fr 124 (ovl σ [(14, (sv a7 a8 a9))]) ∧ Chg [] w b3 ∧ Own (Nw w []) f4 b3 (b0 ++ ([a4] ++ ([a3] ++ []))) ∧ Keeps w M f4 ∧ rp.val f4 b3 (sv pa0 pn0 pc0) a_.2 [] ∧ rm.val f4 b3 (sv pa1 pn1 pc1) all [] ∧ rp.val f4 b3 (sv pa3 pn3 pc3) b.2 [] ∧ BoxV b3 a3 30 [(iv a_.1), (sv pa0 pn0 pc0)] ∧ BoxV b3 a4 30 [(iv b.1), (sv pa3 pn3 pc3)] ∧ (RT.os 3 ri).val f4 b3 (sv a7 a8 a9) s24 b0) (K := (YB M w)) ?_ ?_ 0 () o492 _ _ ?_ s1 ?_)
   ·rintro k490 s488 a b3 ⟨σ, b5, rfl, hC, hO, hK, h0, h1, h3, a0, a1, a2⟩ hlt
    refine zd (c_sr (mi rfl (za (pq a3 1) (zk rfl Zq) (za _ (ld rfl Ag28 Sz28 a0 rfl) (za _ (zn Sl28 (zt h0) rfl) (za _ (zw rfl rfl) (zb (zi (df hlt) (wp_exit ?_)))))))))
    have hO := hO.fr2.fr2.fr2
    exact ⟨rfl, _, b5, fr_m 124 rfl, hC, hO, hK, h0, h1, h3, a0, a1, a2⟩
   ·rintro k490 s488 o492 a b3 ⟨σ, b5, rfl, hC, hO, hK, h0, h1, h3, a0, a1, a2⟩ hlt hw hs
    refine zd (c_sr (mi rfl (za (pq a3 1) (zk rfl Zq) (za _ (ld rfl Ag28 Sz28 a0 rfl) (za _ (zn Sl28 (zt h0) rfl) (za _ (zw rfl rfl) (zb (zh (dt hlt) (wp_skip (zd (wp_block (zd ?_))))))))))))
    obtain ⟨s524, s2, hs⟩ := bind_some hs
    refine yB (I := fun a e0 => ∃ (σ : Nv) (i1 : OA) (i2 : Nat) (i3 : Nat) (i4 : List Nat), a = fr 124 (ovl σ [(1, (iv k)), (2, (sv pa1 pn1 pc1)), (6, (pq a3 0)), (10, (pq a4 0)), (14, (sv a7 a8 a9)), (18, (iv k490)), (19, (sv i1 i2 i3)), (20, (.bool s524.2))]) ∧ Chg [] w e0 ∧ Own (Nw w []) b5 e0 (i4 ++ (b0 ++ ([a4] ++ ([a3] ++ [])))) ∧ rp.val b5 e0 (sv pa0 pn0 pc0) a_.2 [] ∧ rm.val b5 e0 (sv pa1 pn1 pc1) all [] ∧ rp.val b5 e0 (sv pa3 pn3 pc3) b.2 [] ∧ BoxV e0 a3 30 [(iv a_.1), (sv pa0 pn0 pc0)] ∧ BoxV e0 a4 30 [(iv b.1), (sv pa3 pn3 pc3)] ∧ (RT.os 3 ri).val b5 e0 (sv a7 a8 a9) s24 b0 ∧ (RT.os 3 ri).val b5 e0 (sv i1 i2 i3) s524.1 i4) ?_ ?_
    ·replace hs := s2
     refine zQ [] Mx rfl ?_
     have e5 := Chg.drew b3
     generalize World.drew b3 = k5 at e5 ⊢
     obtain ⟨h0, h1, h3, a0, a1, a2, hC, hO⟩ := xt8 e5 h0 h1 h3 a0 a1 a2 hC hO
     have hS := Chg.refl [] k5
     refine xq 0 (pq a3 1) rfl (zk rfl Zq) hS (xl 1 rfl (ldx rfl Ag28 Sz28 a0 rfl) hS (xmi 2 rfl rfl hS ?_))
     obtain ⟨x530, s3, hs⟩ := bind_some hs
     obtain ⟨n2, n3, s4, h5⟩ := zK Sl28 Sz77 h0 s3
     refine xq 3 _ rfl (ip s4 rfl rfl) hS ?_
     obtain ⟨h6, _⟩ := Xt h5
     refine xq 4 (.pointer (some ⟨n2, n3 + 0, none⟩)) rfl (zk rfl ZP) hS (x_l 5 (iv x530.1) rfl (by kernel_rfl) (fun w' hw' => zo rfl ((zm Ag3 Sz3 h6) w' hw')) hS (xq 7 (pq a3 1) rfl (zk rfl Zq) hS (xl 8 rfl (ldx rfl Ag28 Sz28 a0 rfl) hS (xmi 9 rfl rfl hS ?_))))
     obtain ⟨x533, s5, hs⟩ := bind_some hs
     obtain ⟨n4, n5, s6, h7⟩ := zK Sl28 Sz77 h0 s5
     refine xq 10 _ rfl (ip s6 rfl rfl) hS ?_
     obtain ⟨h8, _⟩ := Xt h7
     refine xq 11 (.pointer (some ⟨n4, n5 + 0, none⟩)) rfl (zk rfl ZP) hS (x_l 12 (iv x533.1) rfl (by kernel_rfl) (fun w' hw' => zo rfl ((zm Ag3 Sz3 h8) w' hw')) hS (xq 13 (.bool (x533.1 == 0)) rfl (xV rfl rfl) hS (xmb 14 rfl rfl hS ?_)))
     rcases zf hs with ⟨e6, hs⟩ | ⟨e6, hs⟩
     ·skip
      refine xpn 15 83 rfl (cb e6) hS (xpn 16 83 rfl (cb e6) hS (xpn 17 83 rfl (cb e6) hS (xq 18 _ rfl (ptb (cb e6) rfl) hS (zI (i := 6) (by kernel_rfl) ?_))))
      obtain ⟨y538, s7, hs⟩ := bind_some hs
      obtain ⟨k6, k7, k8, s8, s9, t0, c3, t1, k9⟩ := YX (M := b5) (w := k5) (r := ri) Rw34 s7 (fun _ _ => ⟨rfl, rfl⟩)
      refine zR (w' := s8) (b := false) (sv k6 k7 k8) rfl (yC rfl rfl t0) rfl (fun _ => hS.ext c3) ?_
      obtain ⟨h0, h1, h3, a0, a1, a2, h5, h6⟩ := xt8 c3 h0 h1 h3 a0 a1 a2 h5 h6
      obtain ⟨h7, h8, hC⟩ := xt3 c3 h7 h8 hC
      have hO := hO.new c3 t1 (zu k9) k9.fpl
      have hS := hS.ext c3
      refine xq 19 (sv k6 k7 k8) rfl (zA rfl) hS (xq 20 (.bool true) rfl (zA rfl) hS (xe ?_))
      clear hS
      cases hs
      have hO := hO.fr3.fr3.fr3.fr3
      exact ⟨_, k6, k7, k8, s9, fr_m 124 rfl, hC, hO, h0, h1, h3, a0, a1, a2, k9⟩
     refine xpy 15 83 (sv pa1 pn1 pc1) rfl (cb e6) (zx rfl) hS (xpy 16 83 _ rfl (cb e6) (zn Sl45 (zt h1) rfl) hS (xpy 17 83 _ rfl (cb e6) (YY rfl rfl) hS (xq 18 _ rfl (pfb (cb e6) rfl) hS (zI (i := 6) (by kernel_rfl) ?_))))
     obtain ⟨y541, t2, hs⟩ := bind_some hs
     obtain ⟨l0, l1, l2, t3, t4, t5, c4, t6, l3⟩ := YX (M := b5) (w := k5) (r := ri) Rw34 t2 (fun _ _ => ⟨rfl, rfl⟩)
     refine zR (w' := t3) (b := false) (sv l0 l1 l2) rfl (yC rfl rfl t5) rfl (fun _ => hS.ext c4) ?_
     obtain ⟨h0, h1, h3, a0, a1, a2, h5, h6⟩ := xt8 c4 h0 h1 h3 a0 a1 a2 h5 h6
     obtain ⟨h7, h8, hC⟩ := xt3 c4 h7 h8 hC
     have hO := hO.new c4 t6 (zu l3) l3.fpl
     have hS := hS.ext c4
     refine xq 19 (sv l0 l1 l2) rfl (zA rfl) hS (xq 20 (.bool (decide (0 < (all.length : Int)))) rfl (zA rfl) hS (xe ?_))
     clear hS
     cases hs
     have hO := hO.fr3.fr3.fr3.fr3
     exact ⟨_, l0, l1, l2, t4, fr_m 124 rfl, hC, hO, h0, h1, h3, a0, a1, a2, l3⟩
    rintro f2 e0 ⟨σ, i1, i2, i3, i4, rfl, hC, hO, h0, h1, h3, a0, a1, a2, t7⟩
    obtain ⟨o647, t8, hs⟩ := bind_some hs
    refine wp_block (Zy (id := 6) (I := fun s643 a b1 => ∃ (σ : Nv) (e7 : Nat → Prop) (f5 : OA) (f6 : Nat) (f7 : Nat) (i5 : List Nat), a = fr 124 (ovl σ [(1, (iv k)), (2, (sv pa1 pn1 pc1)), (6, (pq a3 0)), (10, (pq a4 0)), (14, (sv a7 a8 a9)), (18, (iv k490)), (19, (sv f5 f6 f7)), (20, (.bool s643.2))]) ∧ Chg [] w b1 ∧ Own (Nw w []) e7 b1 (i5 ++ (b0 ++ ([a4] ++ ([a3] ++ [])))) ∧ Keeps w M e7 ∧ rp.val e7 b1 (sv pa0 pn0 pc0) a_.2 [] ∧ rm.val e7 b1 (sv pa1 pn1 pc1) all [] ∧ rp.val e7 b1 (sv pa3 pn3 pc3) b.2 [] ∧ BoxV b1 a3 30 [(iv a_.1), (sv pa0 pn0 pc0)] ∧ BoxV b1 a4 30 [(iv b.1), (sv pa3 pn3 pc3)] ∧ (RT.os 3 ri).val e7 b1 (sv a7 a8 a9) s24 b0 ∧ (RT.os 3 ri).val e7 b1 (sv f5 f6 f7) s643.1 i5) (J := fun s643 a b1 => ∃ (σ : Nv) (e8 : Nat → Prop) (n6 : OA) (n7 : Nat) (n8 : Nat) (l4 : List Nat), a = fr 124 (ovl σ [(1, (iv k)), (2, (sv pa1 pn1 pc1)), (6, (pq a3 0)), (10, (pq a4 0)), (14, (sv a7 a8 a9)), (18, (iv k490))]) ∧ Chg [] w b1 ∧ Own (Nw w []) e8 b1 (l4 ++ (b0 ++ ([a4] ++ ([a3] ++ [])))) ∧ Keeps w M e8 ∧ rp.val e8 b1 (sv pa0 pn0 pc0) a_.2 [] ∧ rm.val e8 b1 (sv pa1 pn1 pc1) all [] ∧ rp.val e8 b1 (sv pa3 pn3 pc3) b.2 [] ∧ BoxV b1 a3 30 [(iv a_.1), (sv pa0 pn0 pc0)] ∧ BoxV b1 a4 30 [(iv b.1), (sv pa3 pn3 pc3)] ∧ (RT.os 3 ri).val e8 b1 (sv a7 a8 a9) s24 b0 ∧ (RT.os 3 ri).val e8 b1 (sv n6 n7 n8) s643.1 l4) (K := (YB M w)) ?_ FU (s524.1, s524.2) o647 _ _ ?_ t8 ?_)
    ·rintro s643 o647 a b1 ⟨σ, e7, f5, f6, f7, i5, rfl, hC, hO, hK, h0, h1, h3, a0, a1, a2, i6⟩ hs
     refine zd (c_sr (mb rfl (zb ?_)))
     rcases zf hs with ⟨l5, hs⟩ | ⟨l5, hs⟩
     ·refine zh (cb l5) (wp_skip (wp_block (zd (zQ [] Mx rfl ?_))))
      have e1 := Chg.drew b1
      generalize World.drew b1 = b7 at e1 ⊢
      obtain ⟨h0, h1, h3, a0, a1, a2, i6, hC⟩ := xt8 e1 h0 h1 h3 a0 a1 a2 i6 hC
      have hO := hO.ext e1
      have hS := Chg.refl [] b7
      refine xms 0 rfl rfl hS (xl 1 rfl (ldxw rfl Ag30 a0 Sz30) hS (xmi 2 rfl rfl hS (xms 3 rfl rfl hS (xms 4 rfl rfl hS (xq 6 (pq a3 0) rfl (zk rfl yO) hS (xl 7 rfl (ldx rfl Ag3 Sz3 a0 rfl) hS (xmi 8 rfl rfl hS (zI (i := 5) (by kernel_rfl) ?_))))))))
      obtain ⟨b4, x6, i7, t9, hO, b2⟩ := YS (Frz.os Frz.int) i6 hO
      have h0 := h0.sub i7
      have h1 := h1.sub i7
      have h3 := h3.sub i7
      have a2 := a2.sub i7
      have hK := hK.trans t9
      obtain ⟨r671, u0, hs⟩ := bind_some hs
      refine zL (b := false) rfl Bd52 rfl (VM (M := b4) all s643.1 h1 b2 hO.fut u0) rfl (by rintro _ _ _ ⟨u1, u2, u3, rfl, d2, b6⟩; exact hS.ext d2) ?_
      rintro _ b8 ⟨u1, u2, u3, rfl, d2, b6⟩
      have hK := hK.trans (show Keeps w b4 (Past b4 b7 b8) from Keeps.past hC.size)
      obtain ⟨h0, h1, h3, a0, a1, a2, b2, hC⟩ := xt8 d2 h0 h1 h3 a0 a1 a2 b2 hC
      have hO := hO.past d2
      have h0 := h0.sub (M' := (Past b4 b7 b8)) (fun g hg => .inl hg.1)
      have h1 := h1.sub (M' := (Past b4 b7 b8)) (fun g hg => .inl hg.1)
      have h3 := h3.sub (M' := (Past b4 b7 b8)) (fun g hg => .inl hg.1)
      have a2 := a2.sub (M' := (Past b4 b7 b8)) (fun g hg => .inl hg.1)
      have b2 := b2.sub (M' := (Past b4 b7 b8)) (fun g hg => .inl hg.1)
      have hS := hS.ext d2
      refine zI (i := 9) (by kernel_rfl) ?_
      obtain ⟨r674, u4, hs⟩ := bind_some hs
      refine zL (b := false) rfl Bd24 rfl (Yj (M := (Past b4 b7 b8)) a_.1 k  hO.fut u4) rfl (by rintro _ _ _ ⟨rfl, c8⟩; exact hS.ext c8) ?_
      rintro _ x7 ⟨rfl, c8⟩
      obtain ⟨h0, h1, h3, a0, a1, a2, b2, b6⟩ := xt8 c8 h0 h1 h3 a0 a1 a2 b2 b6
      obtain ⟨hC, hO, hS⟩ := xt3 c8 hC hO hS
      refine zI (i := 10) (by kernel_rfl) ?_
      obtain ⟨r676, u5, hs⟩ := bind_some hs
      refine zL (b := false) rfl Bd51 rfl (YT (M := (Past b4 b7 b8)) (a_.1, a_.2) k490 r671 r674 h0 b6 hO.fut u5) rfl (by rintro _ _ _ ⟨u6, u7, u9, h9, rfl, c9, c5, n9⟩; exact hS.ext c9) ?_
      rintro _ x8 ⟨u6, u7, u9, h9, rfl, c9, c5, n9⟩
      obtain ⟨h0, h1, h3, a0, a1, a2, b2, b6⟩ := xt8 c9 h0 h1 h3 a0 a1 a2 b2 b6
      have hC := hC.ext c9
      have hO := Own.join0 hO c9 n9
      have hO := hO.perm (R := h9 ++ (b0 ++ ([a4] ++ ([a3] ++ [])))) (by simp)
      have hS := hS.ext c9
      refine zI (i := 11) (by kernel_rfl) ?_
      obtain ⟨r679, v0, hs⟩ := bind_some hs
      refine zL (b := false) rfl Bd50 rfl (Yq (M := (Less (Past b4 b7 b8) h9)) all r676 (h1.sub Less.sub) (((Frz.os Frz.int)).val c5 Less.sub Less.not) hO.less.fut v0) rfl (by rintro _ _ _ ⟨rfl, c6⟩; exact hS.ext c6) ?_
      rintro _ o0 ⟨rfl, c6⟩
      obtain ⟨h0, h1, h3, a0, a1, a2, b2, b6⟩ := xt8 c6 h0 h1 h3 a0 a1 a2 b2 b6
      obtain ⟨c5, hC, hO, hS⟩ := xt4 c6 c5 hC hO hS
      refine xq 12 (.tuple #[(iv r679.1), (.bool r679.2)]) rfl (zx rfl) hS (xq 13 (iv r679.1) rfl (zH rfl (by kernel_rfl)) hS (xq 14 (.bool r679.2) rfl (zH rfl (by kernel_rfl)) hS (xq 15 (iv r679.1) rfl (zA rfl) hS (xq 16 (.bool r679.2) rfl (zA rfl) hS (xe ?_)))))
      clear hS
      refine zd (zd (zQ [] Mx rfl ?_))
      have d3 := Chg.drew o0
      generalize World.drew o0 = v1 at d3 ⊢
      obtain ⟨h0, h1, h3, a0, a1, a2, b2, b6⟩ := xt8 d3 h0 h1 h3 a0 a1 a2 b2 b6
      obtain ⟨c5, hC, hO⟩ := xt3 d3 c5 hC hO
      have hS := Chg.refl [] v1
      refine xms 0 rfl rfl hS (xmi 1 rfl rfl hS ?_)
      obtain ⟨x689, v2, hs⟩ := bind_some hs
      obtain ⟨v3, x9, y0, y1, v4, e9, y2⟩ := zS Sl34 Sz3 a2 v2
      refine xq 2 _ rfl (ip v4 rfl rfl) hS (x_l 3 (iv x689) rfl (by kernel_rfl) (fun w' hw' => zo rfl ((zm Ag3 Sz3 e9) w' hw')) hS (xl 4 rfl (ldxw rfl Ag30 a1 Sz30) hS (xmi 5 rfl rfl hS (xms 6 rfl rfl hS (xms 7 rfl rfl hS (zI (i := 8) (by kernel_rfl) ?_))))))
      have hO := hO.fr1
      obtain ⟨r692, v5, hs⟩ := bind_some hs
      refine zL (b := false) rfl Bd54 rfl (VN (M := (Less (Past b4 b7 b8) b0)) s24 s643.1 (((Frz.os Frz.int)).val a2 Less.sub Less.not) (b2.sub Less.sub) hO.less.fut v5) rfl (by rintro _ _ _ ⟨v6, v7, v8, i9, rfl, c1, e2, o1⟩; exact hS.ext c1) ?_
      rintro _ y3 ⟨v6, v7, v8, i9, rfl, c1, e2, o1⟩
      obtain ⟨h0, h1, h3, a0, a1, a2, b2, b6⟩ := xt8 c1 h0 h1 h3 a0 a1 a2 b2 b6
      obtain ⟨c5, e9, hC⟩ := xt3 c1 c5 e9 hC
      have hO := Own.join0 hO c1 o1
      have hO := hO.perm (R := i9 ++ (b0 ++ (h9 ++ ([a4] ++ ([a3] ++ []))))) (by simp)
      have e2 := e2.free (M' := (Past b4 b7 b8)) (Free.os Free.int)
      have hS := hS.ext c1
      refine zI (i := 9) (by kernel_rfl) ?_
      obtain ⟨r695, v9, hs⟩ := bind_some hs
      refine zL (b := false) rfl Bd53 rfl (Wf (M := (Less (Past b4 b7 b8) i9)) (b.1, b.2) k490 r692 (h3.sub Less.sub) (((Frz.os Frz.int)).val e2 Less.sub Less.not) hO.less.fut v9) rfl (by rintro _ _ _ ⟨rfl, b9⟩; exact hS.ext b9) ?_
      rintro _ w1 ⟨rfl, b9⟩
      obtain ⟨h0, h1, h3, a0, a1, a2, b2, b6⟩ := xt8 b9 h0 h1 h3 a0 a1 a2 b2 b6
      obtain ⟨c5, e2, e9, hC, hO, hS⟩ := xt6 b9 c5 e2 e9 hC hO hS
      refine xq 10 (.bool (x689 != r695)) rfl (YJ rfl rfl) hS (xe ?_)
      clear hS
      rcases zf hs with ⟨l6, hs⟩ | ⟨l6, hs⟩
      ·refine zh (cb l6) (c_sr ?_)
       obtain ⟨o2, g3, w2, o3, d0, o4⟩ := zg w1 [] 3
       refine za (w' := o2) (sv (some ⟨g3, 0, none⟩) 0 0) (zz rfl (by rw [w2, o3]; kernel_rfl)) ?_
       obtain ⟨h0, h1, h3, a0, a1, a2, b2, b6⟩ := xt8 d0 h0 h1 h3 a0 a1 a2 b2 b6
       obtain ⟨c5, e2, e9, hC⟩ := xt4 d0 c5 e2 e9 hC
       have hO := hO.new1 d0 o3 o4.lt
       have l7 := os0 (r := ri) (M := (Past b4 b7 b8)) o4
       refine ax rfl (ab rfl (zb (wp_ret ?_)))
       cases hs
       have hO := hO.fr1.drop.fr1.drop.fr1.drop.fr1.drop.fr1.drop
       exact ⟨_, (some ⟨g3, 0, none⟩), 0, 0, [g3], fr_m 124 rfl, hC, (l7.free (Free.os Free.int)), hO.top⟩
      refine zi (cb l6) (wp_skip (ze (ms rfl (ms rfl (za _ (zn Sl45 (zt h1) rfl) ?_)))))
      obtain ⟨r700, w3, hs⟩ := bind_some hs
      refine zy Bd55 rfl (Xe (M := (Past b4 b7 b8)) s643.1 (all.length : Int) b2 hO.fut w3) ?_
      rintro _ y4 ⟨j0, j1, j2, o5, rfl, d1, w4, w5⟩
      obtain ⟨h0, h1, h3, a0, a1, a2, b2, b6⟩ := xt8 d1 h0 h1 h3 a0 a1 a2 b2 b6
      obtain ⟨c5, e2, e9, hC⟩ := xt4 d1 c5 e2 e9 hC
      have hO := Own.join0 hO d1 w5
      have hO := hO.perm (R := o5 ++ (i9 ++ (b0 ++ (h9 ++ ([a4] ++ ([a3] ++ [])))))) (by simp)
      refine za (.tuple #[(sv j0 j1 j2), (.bool r700.2)]) (zx rfl) (za (sv j0 j1 j2) (zH rfl (by kernel_rfl)) (za (.bool r700.2) (zH rfl (by kernel_rfl)) (ax rfl (ab rfl (zb ?_)))))
      cases hs
      have hO := hO.fr1.drop.fr2.drop.fr3.fr3.fr3.fr3
      exact ⟨_, (Past b4 b7 b8), j0, j1, j2, o5, fr_m 124 rfl, hC, hO, hK, h0, h1, h3, a0, a1, a2, w4⟩
     refine zi (cb l5) (wp_exit ?_)
     cases hs
     have hO := hO.fr3.fr3.fr3.fr3
     exact ⟨rfl, _, e7, f5, f6, f7, i5, fr_m 124 rfl, hC, hO, hK, h0, h1, h3, a0, a1, a2, i6⟩
    ·skip
     have hO := hO.fr3.fr3.fr3.fr3
     exact ⟨_, b5, i1, i2, i3, i4, fr_m 124 rfl, hC, hO, hK, h0, h1, h3, a0, a1, a2, t7⟩
    cases o647 with
    | nx _ => exact True.intro
    | rt r_ =>
     have hs := zq hs
     intro f2 i0 hK
     cases hs
     exact hK
    | br s643 =>
     have hs := zp hs
     rintro f2 b1 ⟨σ, e8, n6, n7, n8, l4, rfl, hC, hO, hK, h0, h1, h3, a0, a1, a2, y5⟩
     refine ze (mi rfl (za _ (yad rfl rfl) (ai rfl (zb ?_))))
     cases hs
     have hO := hO.drop.fr2.fr2.fr2
     exact ⟨_, e8, zG 124 ⟨rfl, rfl, rfl, rfl, rfl, congrArg (Value.int .i64) hw, trivial⟩, hC, hO, hK, h0, h1, h3, a0, a1, a2⟩
   ·skip
    have hO := hO.fr2.fr2.fr2
    exact ⟨_, M, fr_m 124 rfl, hC, hO, Keeps.refl, h0, h1, h3, a0, a1, a2⟩
   cases o492 with
   | nx _ => exact True.intro
   | rt r_ =>
    have hs := zq hs
    intro f2 i0 hK
    cases hs
    exact hK
   | br s488 =>
    have hs := zp hs
    rintro f2 b3 ⟨σ, f4, rfl, hC, hO, hK, h0, h1, h3, a0, a1, a2⟩
    refine c_sr (ms rfl (ax rfl (ab rfl (zb (wp_ret ?_)))))
    cases hs
    have hO := hO.fr1.drop.fr1.drop
    exact ⟨_, a7, a8, a9, b0, fr_m 124 rfl, hC, (a2.free (Free.os Free.int)), hO.top⟩

theorem Bd21 : zF Tryz.prog 21 := zJ Tryz.func21 (by kernel_rfl) rfl

theorem Bd22 : zF Tryz.prog 22 := zJ Tryz.func22 (by kernel_rfl) rfl

theorem Bd23 : zF Tryz.prog 23 := zJ Tryz.func23 (by kernel_rfl) rfl

theorem Bd25 : zF Tryz.prog 25 := zJ Tryz.func25 (by kernel_rfl) rfl

def vG (M : Nat → Prop) (w0 : World) (r : (List Int) × Bool) (a : Act) (w : World) : Prop :=
  ∃ (σ : Nv) (ra0 : OA) (rn0 rc0 : Nat) (rf0 : List Nat), a = fr 61 (ovl σ [(8, (sv ra0 rn0 rc0)), (9, (.bool r.2))]) ∧ Chg [] w0 w ∧ (RT.os 3 ri).val M w (sv ra0 rn0 rc0) r.1 rf0 ∧ Own (Nw w0 []) (fun _ => True) w (rf0 ++ [])
def Yl (a_ : Int × (List (Int × (List Int)))) (k : Int) (b : Int × (List (Int × (List Int)))) (images : List Int) : Option ((List Int) × Bool) :=
  (yD (a_.1, a_.2) k).bind fun r7 =>
  (yP (a_.1, a_.2) k).bind fun r10 =>
  ((bif (!r7.2) then some true else (bif (!r10.2) then some true else (xh (a_.1, a_.2) (b.1, b.2)).bind fun r18 =>
  (bif (!r18) then some true else (bif ((images.length : Int) != k) then some true else (yL b.1 images).bind fun r22 =>
  some (!r22)))))).bind fun s12 =>
  (bif s12 then some ([], false) else (yX (a_.1, a_.2) k r7.1 r10.1 (b.1, b.2) images).bind fun r27 =>
  some (r27.1, r27.2))
theorem vS {M : Nat → Prop} {w : World} {pa0 : OA} {pn0 pc0 : Nat} {pa1 : OA} {pn1 pc1 : Nat} {pa2 : OA} {pn2 pc2 : Nat} (a_ : tA) (k : Int) (b : tA) (images : List Int) (h0 : rp.val M w (sv pa0 pn0 pc0) a_.2 []) (h1 : rp.val M w (sv pa1 pn1 pc1) b.2 []) (h2 : rl.val M w (sv pa2 pn2 pc2) images []) (hM : Hm w M) {r : (List Int) × Bool} (hs : Yl a_ k b images = some r) :
    Gives Tryz.prog 18 [(.agg #[(iv a_.1), (sv pa0 pn0 pc0)]), (iv k), (.agg #[(iv b.1), (sv pa1 pn1 pc1)]), (sv pa2 pn2 pc2)] w (fun v w' => ∃ (ra0 : OA) (rn0 rc0 : Nat) (rf0 : List Nat), v = (.tuple #[(sv ra0 rn0 rc0), (.bool r.2)]) ∧ Chg [] w w' ∧ (RT.os 3 ri).val M w' (sv ra0 rn0 rc0) r.1 rf0 ∧ Own (Nw w []) (fun _ => True) w' (rf0 ++ [])) := by
 refine zr Tryz.func18 rfl Tryz.ntmps18 (nl rfl) ?_
 have hO := Own.start (N := Nw w []) hM Nw.fut
 have hC := Chg.refl [] w
 unfold Yl at hs
 refine wp_k (K := (vG M w r)) (by rintro _ _ ⟨σ, ra0, rn0, rc0, rf0, rfl, hrest⟩; exact wb Tryz.results18 (zB rfl) (zB rfl) ⟨ra0, rn0, rc0, rf0, rfl, hrest⟩) (c_sr ?_)
 obtain ⟨d6, c7, e4, d7, b9, a0⟩ := zg w [(iv a_.1), (sv pa0 pn0 pc0)] 30
 refine za (w' := d6) (pq c7 0) (Zj rfl (by rw [e4, d7]; kernel_rfl)) ?_
 obtain ⟨h0, h1, h2, hC⟩ := xt4 b9 h0 h1 h2 hC
 have hO := hO.new1 b9 d7 a0.lt
 obtain ⟨a4, c0, e5, d8, b7, a1⟩ := zg d6 [(iv b.1), (sv pa1 pn1 pc1)] 30
 refine za (w' := a4) (pq c0 0) (Zj rfl (by rw [e5, d8]; kernel_rfl)) ?_
 obtain ⟨h0, h1, h2, a0, hC⟩ := xt5 b7 h0 h1 h2 a0 hC
 have hO := hO.new1 b7 d8 a1.lt
 refine ax rfl (ab rfl (zb (c_sr (za _ (ldw rfl Ag30 a0 Sz30) (mi rfl ?_)))))
 obtain ⟨r7, e6, hs⟩ := bind_some hs
 refine zy Bd21 rfl (uk (M := M) (a_.1, a_.2) k h0 hO.fut e6) ?_
 rintro _ a5 ⟨c1, c2, c3, rfl, b5, a2⟩
 have hK := (show Keeps w M (Past M a4 a5) from Keeps.past hC.size)
 obtain ⟨h0, h1, h2, a0, a1, hC⟩ := xt6 b5 h0 h1 h2 a0 a1 hC
 have hO := hO.past b5
 have h0 := h0.sub (M' := (Past M a4 a5)) (fun g hg => .inl hg.1)
 have h1 := h1.sub (M' := (Past M a4 a5)) (fun g hg => .inl hg.1)
 have h2 := h2.sub (M' := (Past M a4 a5)) (fun g hg => .inl hg.1)
 refine za (.tuple #[(sv c1 c2 c3), (.bool r7.2)]) (zx rfl) (za (sv c1 c2 c3) (zH rfl (by kernel_rfl)) (za (.bool r7.2) (zH rfl (by kernel_rfl)) (ax rfl (ab rfl (zb (c_sr (za _ (ldw rfl Ag30 a0 Sz30) (mi rfl ?_))))))))
 obtain ⟨r10, e7, hs⟩ := bind_some hs
 refine zy Bd22 rfl (VG (M := (Past M a4 a5)) (a_.1, a_.2) k h0 hO.fut e7) ?_
 rintro _ d9 ⟨c4, c5, c6, c8, rfl, b4, a6, e8⟩
 obtain ⟨h0, h1, h2, a0, a1, a2, hC⟩ := xt7 b4 h0 h1 h2 a0 a1 a2 hC
 have hO := Own.join0 hO b4 e8
 have hO := hO.perm (R := c8 ++ ([c0] ++ ([c7] ++ []))) (by simp)
 refine za (.tuple #[(sv c4 c5 c6), (.bool r10.2)]) (zx rfl) (za (sv c4 c5 c6) (zH rfl (by kernel_rfl)) (za (.bool r10.2) (zH rfl (by kernel_rfl)) (ax rfl (ab rfl (zb (zd (zd ?_)))))))
 obtain ⟨s12, e9, hs⟩ := bind_some hs
 refine yB (I := fun a c9 => ∃ (σ : Nv), a = fr 61 (ovl σ [(1, (iv k)), (3, (sv pa2 pn2 pc2)), (4, (pq c7 0)), (6, (pq c0 0)), (8, (sv none 0 0)), (9, (.bool false)), (10, (sv c1 c2 c3)), (12, (sv c4 c5 c6)), (50, (.bool s12))]) ∧ Chg [] d9 c9) ?_ ?_
 ·replace hs := e9
  have hMid := Chg.refl [] d9
  refine ze (mb rfl (za _ (ZA rfl) (mb rfl ?_)))
  rcases zf hs with ⟨b6, hs⟩ | ⟨b6, hs⟩
  ·skip
   refine pn 28 (cb b6) (pn 28 (cb b6) (za _ (ptb (cb b6) rfl) (mb rfl (pn 32 (by rfl) (pn 32 (by rfl) (pn 32 (by rfl) (pn 32 (by rfl) (za _ (ptb (by rfl) rfl) (mb rfl (pn 38 (by rfl) (pn 38 (by rfl) (pn 38 (by rfl) (pn 38 (by rfl) (za _ (ptb (by rfl) rfl) (mb rfl (pn 44 (by rfl) (pn 44 (by rfl) (pn 44 (by rfl) (pn 44 (by rfl) (pn 44 (by rfl) (za _ (ptb (by rfl) rfl) (zb ?_))))))))))))))))))))))
   cases hs
   exact ⟨_, fr_m 61 rfl, hMid⟩
  refine py 28 (.bool r10.2) (cb b6) (zx rfl) (py 28 _ (cb b6) (ZA rfl) (za _ (pfb (cb b6) rfl) (mb rfl ?_)))
  rcases zf hs with ⟨a7, hs⟩ | ⟨a7, hs⟩
  ·skip
   refine pn 32 (cb a7) (pn 32 (cb a7) (pn 32 (cb a7) (pn 32 (cb a7) (za _ (ptb (cb a7) rfl) (mb rfl (pn 38 (by rfl) (pn 38 (by rfl) (pn 38 (by rfl) (pn 38 (by rfl) (za _ (ptb (by rfl) rfl) (mb rfl (pn 44 (by rfl) (pn 44 (by rfl) (pn 44 (by rfl) (pn 44 (by rfl) (pn 44 (by rfl) (za _ (ptb (by rfl) rfl) (zb ?_))))))))))))))))))
   cases hs
   exact ⟨_, fr_m 61 rfl, hMid⟩
  refine py 32 _ (cb a7) (ldw rfl Ag30 a0 Sz30) (py 32 _ (cb a7) (ldw rfl Ag30 a1 Sz30) ?_)
  obtain ⟨r18, f0, hs⟩ := bind_some hs
  refine yt (tg := 32) (by kernel_rfl) (cb a7) Bd23 rfl (zav (M := (Past M a4 a5)) (a_.1, a_.2) (b.1, b.2) h0 h1 hO.fut f0) ?_
  rintro _ f6 ⟨rfl, a9⟩
  obtain ⟨h0, h1, h2, a0, a1, a2, a6, hMid⟩ := xt8 a9 h0 h1 h2 a0 a1 a2 a6 hMid
  obtain ⟨hC, hO⟩ := xt2 a9 hC hO
  refine py 32 _ (cb a7) (ZA rfl) (za _ (pfb (cb a7) rfl) (mb rfl ?_))
  rcases zf hs with ⟨a8, hs⟩ | ⟨a8, hs⟩
  ·skip
   refine pn 38 (cb a8) (pn 38 (cb a8) (pn 38 (cb a8) (pn 38 (cb a8) (za _ (ptb (cb a8) rfl) (mb rfl (pn 44 (by rfl) (pn 44 (by rfl) (pn 44 (by rfl) (pn 44 (by rfl) (pn 44 (by rfl) (za _ (ptb (by rfl) rfl) (zb ?_))))))))))))
   cases hs
   exact ⟨_, fr_m 61 rfl, hMid⟩
  refine py 38 (sv pa2 pn2 pc2) (cb a8) (zx rfl) (py 38 _ (cb a8) (zn Sl34 (zt h2) rfl) (py 38 (iv k) (cb a8) (zx rfl) (py 38 (.bool ((images.length : Int) != k)) (cb a8) (YJ rfl rfl) (za _ (pfb (cb a8) rfl) (mb rfl ?_)))))
  rcases zf hs with ⟨a3, hs⟩ | ⟨a3, hs⟩
  ·skip
   refine pn 44 (cb a3) (pn 44 (cb a3) (pn 44 (cb a3) (pn 44 (cb a3) (pn 44 (cb a3) (za _ (ptb (cb a3) rfl) (zb ?_))))))
   cases hs
   exact ⟨_, fr_m 61 rfl, hMid⟩
  refine py 44 (pq c0 0) (cb a3) (zk rfl yO) (py 44 _ (cb a3) (ld rfl Ag3 Sz3 a1 rfl) (py 44 (sv pa2 pn2 pc2) (cb a3) (zx rfl) ?_))
  obtain ⟨r22, f1, hs⟩ := bind_some hs
  refine yt (tg := 44) (by kernel_rfl) (cb a3) Bd39 rfl (XU (M := (Past M a4 a5)) b.1 images h2 hO.fut f1) ?_
  rintro _ f7 ⟨rfl, b0⟩
  obtain ⟨h0, h1, h2, a0, a1, a2, a6, hMid⟩ := xt8 b0 h0 h1 h2 a0 a1 a2 a6 hMid
  obtain ⟨hC, hO⟩ := xt2 b0 hC hO
  refine py 44 _ (cb a3) (ZA rfl) (za _ (pfb (cb a3) rfl) (zb ?_))
  cases hs
  exact ⟨_, fr_m 61 rfl, hMid⟩
 rintro f8 c9 ⟨σ, rfl, b1⟩
 obtain ⟨h0, h1, h2, a0, a1, a2, a6, hC⟩ := xt8 b1 h0 h1 h2 a0 a1 a2 a6 hC
 have hO := hO.ext b1
 rcases zf hs with ⟨d0, hs⟩ | ⟨d0, hs⟩
 ·refine zh (cb d0) (c_sr ?_)
  obtain ⟨e0, b8, f2, e1, b2, e2⟩ := zg c9 [] 3
  refine za (w' := e0) (sv (some ⟨b8, 0, none⟩) 0 0) (zz rfl (by rw [f2, e1]; kernel_rfl)) ?_
  obtain ⟨h0, h1, h2, a0, a1, a2, a6, hC⟩ := xt8 b2 h0 h1 h2 a0 a1 a2 a6 hC
  have hO := hO.new1 b2 e1 e2.lt
  have d1 := os0 (r := ri) (M := (Past M a4 a5)) e2
  refine ax rfl (ab rfl (zb (wp_ret ?_)))
  cases hs
  have hO := hO.fr1.drop.fr1.drop.fr1.drop
  exact ⟨_, (some ⟨b8, 0, none⟩), 0, 0, [b8], fr_m 61 rfl, hC, (d1.free (Free.os Free.int)), hO.top⟩
 refine zi (cb d0) (wp_skip (c_sr (za _ (ldw rfl Ag30 a0 Sz30) (mi rfl (ms rfl (ms rfl (za _ (ldw rfl Ag30 a1 Sz30) (ms rfl ?_))))))))
 obtain ⟨r27, f3, hs⟩ := bind_some hs
 refine zy Bd25 rfl (Vg (M := (Less (Past M a4 a5) c8)) (a_.1, a_.2) k r7.1 r10.1 (b.1, b.2) images (h0.sub Less.sub) (a2.sub Less.sub) (((Frz.os (Frz.os Frz.int))).val a6 Less.sub Less.not) (h1.sub Less.sub) (h2.sub Less.sub) hO.less.fut f3) ?_
 rintro _ f9 ⟨d2, d3, d4, e3, rfl, b3, d5, f4⟩
 obtain ⟨h0, h1, h2, a0, a1, a2, a6, hC⟩ := xt8 b3 h0 h1 h2 a0 a1 a2 a6 hC
 have hO := Own.join0 hO b3 f4
 have hO := hO.perm (R := e3 ++ (c8 ++ ([c0] ++ ([c7] ++ [])))) (by simp)
 have d5 := d5.free (M' := (Past M a4 a5)) (Free.os Free.int)
 refine za (sv d2 d3 d4) (zH rfl (by kernel_rfl)) (za (.bool r27.2) (zH rfl (by kernel_rfl)) (ax rfl (ab rfl (zb (wp_ret ?_)))))
 cases hs
 have hO := hO.fr1.drop.fr1.drop.fr1.drop
 exact ⟨_, d2, d3, d4, e3, fr_m 61 rfl, hC, (d5.free (Free.os Free.int)), hO.top⟩

def vH (M : Nat → Prop) (w0 : World) (r : Int) (a : Act) (w : World) : Prop :=
  ∃ (σ : Nv) , a = fr 14 (ovl σ [(4, (iv r))]) ∧ Chg [] w0 w
def yn (n : Int) (k : Int) : Option (Int) :=
  (iter (S := Int × Int) (R := Int) (fun s2 =>
  (bif (decide (0 < s2.1)) then some (.nx (w64 (s2.1 - 1), w64 (s2.2 * n))) else some (.br (s2.1, s2.2)))) FU (k, 1)).bind fun o6 => after o6 (fun r_ => some r_) (fun s2 =>
  some s2.2)
theorem Xu {M : Nat → Prop} {w : World}  (n : Int) (k : Int) (hM : Hm w M) {r : Int} (hs : yn n k = some r) :
    Gives Tryz.prog 32 [(iv n), (iv k)] w (fun v w' => v = (iv r) ∧ Chg [] w w') := by
 refine zr Tryz.func32 rfl Tryz.ntmps32 (nl rfl) ?_
 have hO := Own.start (N := Nw w []) hM Nw.fut
 have hC := Chg.refl [] w
 unfold yn at hs
 refine wp_k (K := (vH M w r)) (by rintro _ _ ⟨σ, rfl, hrest⟩; exact Za Tryz.results32 (zB rfl) ⟨rfl, hrest⟩) (c_sr (ai rfl (zb (c_sr (ai rfl (zb (zd ?_)))))))
 obtain ⟨o6, a3, hs⟩ := bind_some hs
 refine wp_block (Zy (id := 0) (I := fun s2 a a0 => ∃ (σ : Nv), a = fr 14 (ovl σ [(0, (iv n)), (1, (iv s2.1)), (5, (iv s2.2))]) ∧ Chg [] w a0 ∧ Own (Nw w []) M a0 []) (J := fun s2 a a0 => ∃ (σ : Nv), a = fr 14 (ovl σ [(5, (iv s2.2))]) ∧ Chg [] w a0 ∧ Own (Nw w []) M a0 []) (K := (vH M w)) ?_ FU (k, 1) o6 _ _ ?_ a3 ?_)
 ·rintro s2 o6 a a0 ⟨σ, rfl, hC, hO⟩ hs
  refine zd (c_sr (mi rfl (za _ (YY rfl rfl) (zb ?_))))
  rcases zf hs with ⟨a1, hs⟩ | ⟨a1, hs⟩
  ·refine zh (cb a1) (wp_skip (zd (wp_block (ze (mi rfl (mi rfl (za _ (ymu rfl rfl) (ai rfl (zb (ze (mi rfl (za _ (ysu rfl rfl) (ai rfl (zb ?_))))))))))))))
   cases hs
   exact ⟨_, fr_m 14 rfl, hC, hO⟩
  refine zi (cb a1) (wp_exit ?_)
  cases hs
  exact ⟨rfl, _, fr_m 14 rfl, hC, hO⟩
 ·skip
  exact ⟨_, fr_m 14 rfl, hC, hO⟩
 cases o6 with
 | nx _ => exact True.intro
 | rt r_ =>
  have hs := zq hs
  intro a4 a2 hK
  cases hs
  exact hK
 | br s2 =>
  have hs := zp hs
  rintro a4 a0 ⟨σ, rfl, hC, hO⟩
  refine c_sr (mi rfl (ai rfl (zb (wp_ret ?_))))
  cases hs
  exact ⟨_, fr_m 14 rfl, hC⟩

def vg (M : Nat → Prop) (w0 : World) (r : Bool) (a : Act) (w : World) : Prop :=
  ∃ (σ : Nv) , a = fr 21 (ovl σ [(4, (.bool r))]) ∧ Chg [] w0 w
def Yu (list : List Int) (n : Int) : Option (Bool) :=
  (forR (S := Unit) (R := Bool) (fun _ x8 s5 =>
  (bif (decide (x8 < 0)) then some (.rt false) else (bif (decide (n ≤ x8)) then some (.rt false) else some (.nx ())))) 0 list ()).bind fun o9 => after o9 (fun r_ => some r_) (fun s5 =>
  some true)
theorem vb {M : Nat → Prop} {w : World} {pa0 : OA} {pn0 pc0 : Nat} (list : List Int) (n : Int) (h0 : rl.val M w (sv pa0 pn0 pc0) list []) (hM : Hm w M) {r : Bool} (hs : Yu list n = some r) :
    Gives Tryz.prog 40 [(sv pa0 pn0 pc0), (iv n)] w (fun v w' => v = (.bool r) ∧ Chg [] w w') := by
 refine zr Tryz.func40 rfl Tryz.ntmps40 (nl rfl) ?_
 have hO := Own.start (N := Nw w []) hM Nw.fut
 have hC := Chg.refl [] w
 unfold Yu at hs
 refine wp_k (K := (vg M w r)) (by rintro _ _ ⟨σ, rfl, hrest⟩; exact Za Tryz.results40 (zB rfl) ⟨rfl, hrest⟩) (c_sr (ab rfl (zb (zd (c_sr (ms rfl (za _ (zn Sl34 (zt h0) rfl) (mi rfl (zb ?_)))))))))
 obtain ⟨o9, a5, hs⟩ := bind_some hs
 refine wp_block (YE (id := 0) (I := fun i_ xs_ s5 a a0 => ∃ a1 : Nat, i_ = (a1 : Int) ∧ List.drop a1 list = xs_ ∧ (∃ (σ : Nv), a = fr 21 (ovl σ [(1, (iv n)), (7, (sv pa0 pn0 pc0)), (8, (iv (list.length : Int))), (9, (iv (a1 : Int)))]) ∧ Chg [] w a0 ∧ Own (Nw w []) M a0 [] ∧ rl.val M a0 (sv pa0 pn0 pc0) list [])) (J := fun s5 a a0 => ∃ (σ : Nv), a = fr 21 (ovl σ []) ∧ Chg [] w a0 ∧ Own (Nw w []) M a0 [] ∧ rl.val M a0 (sv pa0 pn0 pc0) list []) (K := (vg M w)) ?_ ?_ list 0 () o9 _ _ ?_ a5 ?_)
 ·rintro _ s5 a a0 ⟨a1, rfl, hd, σ, rfl, hC, hO, h0⟩
  have hlt := ZI hd
  refine c_sr (za _ (zw rfl rfl) (zb (zd (zi (df hlt) (wp_exit ?_)))))
  exact ⟨rfl, _, zG 21 trivial, hC, hO, h0⟩
 ·rintro _ x8 xs_ s5 o9 a a0 ⟨a1, rfl, hd, σ, rfl, hC, hO, h0⟩ hs
  have hlt := ZB hd
  have a6 := Zt hd
  refine c_sr (za _ (zw rfl rfl) (zb (zd (zh (dt hlt) (wp_skip (zd (wp_block (c_sr ?_))))))))
  obtain ⟨a7, a8, a9, b0⟩ := zK Sl34 Sz3 h0 a6
  refine za _ (ip a9 rfl rfl) (za (iv x8) (zo rfl ((zm Ag3 Sz3 b0) _ (Chg.refl _ _))) (ai rfl (zb (c_sr (mi rfl (za _ (zw rfl rfl) (mb rfl ?_)))))))
  rcases zf hs with ⟨a2, hs⟩ | ⟨a2, hs⟩
  ·skip
   refine pn 15 (cb a2) (pn 15 (cb a2) (pn 15 (cb a2) (za _ (ptb (cb a2) rfl) (zb (zh (by rfl) (c_sr (ab rfl (zb (wp_ret ?_)))))))))
   cases hs
   exact ⟨_, fr_m 21 rfl, hC⟩
  refine py 15 (iv x8) (cb a2) (zx rfl) (py 15 (iv n) (cb a2) (zx rfl) (py 15 _ (cb a2) (Xs rfl rfl) (za _ (pfb (cb a2) rfl) (zb ?_))))
  rcases zf hs with ⟨a3, hs⟩ | ⟨a3, hs⟩
  ·refine zh (cb a3) (c_sr (ab rfl (zb (wp_ret ?_))))
   cases hs
   exact ⟨_, fr_m 21 rfl, hC⟩
  refine zi (cb a3) (wp_skip (ze (za _ (yad rfl rfl) (mi rfl (zb ?_)))))
  cases hs
  exact ⟨_, rfl, Zk hd, _, zG 21 ⟨rfl, rfl, rfl, congrArg (Value.int .i64) (Yc hlt (Int.natCast_nonneg _) (Xo h0)), trivial⟩, hC, hO, h0⟩
 ·skip
  exact ⟨0, rfl, rfl, _, fr_m 21 rfl, hC, hO, h0⟩
 cases o9 with
 | nx _ => exact True.intro
 | rt r_ =>
  have hs := zq hs
  intro b1 a4 hK
  cases hs
  exact hK
 | br s5 =>
  have hs := zp hs
  rintro b1 a0 ⟨σ, rfl, hC, hO, h0⟩
  refine c_sr (ab rfl (zb (wp_ret ?_)))
  cases hs
  exact ⟨_, fr_m 21 rfl, hC⟩

theorem Bd32 : zF Tryz.prog 32 := zJ Tryz.func32 (by kernel_rfl) rfl

theorem Bd40 : zF Tryz.prog 40 := zJ Tryz.func40 (by kernel_rfl) rfl

def zaV (M : Nat → Prop) (w0 : World) (r : Bool) (a : Act) (w : World) : Prop :=
  ∃ (σ : Nv) , a = fr 29 (ovl σ [(4, (.bool r))]) ∧ Chg [] w0 w
def xb (f : Int × (List Int)) (n : Int) : Option (Bool) :=
  (bif (decide (0 ≤ f.1)) then (bif (decide (f.1 ≤ 3)) then (yn n f.1).bind fun r7 =>
  (bif ((f.2.length : Int) == r7) then (Yu f.2 n).bind fun r10 =>
  some r10 else some false) else some false) else some false)
theorem zaX {M : Nat → Prop} {w : World} {pa0 : OA} {pn0 pc0 : Nat} (f : Int × (List Int)) (n : Int) (h0 : rl.val M w (sv pa0 pn0 pc0) f.2 []) (hM : Hm w M) {r : Bool} (hs : xb f n = some r) :
    Gives Tryz.prog 84 [(.agg #[(iv f.1), (sv pa0 pn0 pc0)]), (iv n)] w (fun v w' => v = (.bool r) ∧ Chg [] w w') := by
 refine zr Tryz.func84 rfl Tryz.ntmps84 (nl rfl) ?_
 have hO := Own.start (N := Nw w []) hM Nw.fut
 have hC := Chg.refl [] w
 unfold xb at hs
 refine wp_k (K := (zaV M w r)) (by rintro _ _ ⟨σ, rfl, hrest⟩; exact Za Tryz.results84 (zB rfl) ⟨rfl, hrest⟩) (c_sr ?_)
 obtain ⟨a8, a6, b1, b0, a9, a1⟩ := zg w [(iv f.1), (sv pa0 pn0 pc0)] 77
 refine za (w' := a8) (pq a6 0) (Zj rfl (by rw [b1, b0]; kernel_rfl)) ?_
 obtain ⟨h0, hC⟩ := xt2 a9 h0 hC
 have hO := hO.new1 a9 b0 a1.lt
 refine ab rfl (zb (zd (zQ [] Mx rfl ?_)))
 have a7 := Chg.drew a8
 generalize World.drew a8 = b2 at a7 ⊢
 obtain ⟨h0, a1, hC, hO⟩ := xt4 a7 h0 a1 hC hO
 have hS := Chg.refl [] b2
 refine xq 0 (pq a6 0) rfl (zk rfl ZP) hS (xl 1 rfl (ldx rfl Ag3 Sz3 a1 rfl) hS (xq 2 _ rfl (Xs rfl rfl) hS (xmb 3 rfl rfl hS ?_)))
 rcases zf hs with ⟨a3, hs⟩ | ⟨a3, hs⟩
 ·skip
  refine xpy 4 8 (pq a6 0) rfl (cb a3) (zk rfl ZP) hS (x_ly 5 (iv f.1) rfl (by kernel_rfl) (tg := 8) (by kernel_rfl) (cb a3) (fun w' hw' => zo rfl ((Zz Ag3 Sz3 a1 [] [(iv f.1)] [(sv pa0 pn0 pc0)] rfl rfl (fun _ => rfl)) w' hw')) hS (xpy 6 8 _ rfl (cb a3) (wx rfl rfl) hS (xq 7 _ rfl (ptb (cb a3) rfl) hS (xmb 8 rfl rfl hS ?_))))
  rcases zf hs with ⟨a0, hs⟩ | ⟨a0, hs⟩
  ·skip
   refine xpy 9 13 (pq a6 1) rfl (cb a0) (zk rfl xA) hS (x_ly 10 (sv pa0 pn0 pc0) rfl (by kernel_rfl) (tg := 13) (by kernel_rfl) (cb a0) (fun w' hw' => zo rfl ((Zz Ag34 Sz34 a1 [(iv f.1)] [(sv pa0 pn0 pc0)] [] rfl rfl (fun _ => rfl)) w' hw')) hS (xpy 11 13 _ rfl (cb a0) (zn Sl34 (zt h0) rfl) hS (xpy 12 13 (iv n) rfl (cb a0) (zx rfl) hS (xpy 13 13 (pq a6 0) rfl (cb a0) (zk rfl ZP) hS (x_ly 14 (iv f.1) rfl (by kernel_rfl) (tg := 13) (by kernel_rfl) (cb a0) (fun w' hw' => zo rfl ((Zz Ag3 Sz3 a1 [] [(iv f.1)] [(sv pa0 pn0 pc0)] rfl rfl (fun _ => rfl)) w' hw')) hS (zI (i := 15) (by kernel_rfl) ?_))))))
   obtain ⟨r7, b3, hs⟩ := bind_some hs
   refine wz (b := false) rfl (tg := 13) (by kernel_rfl) (cb a0) Bd32 rfl (Xu (M := M) n f.1  hO.fut b3) rfl (by rintro _ _ _ ⟨rfl, a4⟩; exact hS.ext a4) ?_
   rintro _ b6 ⟨rfl, a4⟩
   obtain ⟨h0, a1, hC, hO, hS⟩ := xt5 a4 h0 a1 hC hO hS
   refine xpy 16 13 (.bool ((f.2.length : Int) == r7)) rfl (cb a0) (xV rfl rfl) hS (xq 17 _ rfl (ptb (cb a0) rfl) hS (xmb 18 rfl rfl hS ?_))
   rcases zf hs with ⟨a2, hs⟩ | ⟨a2, hs⟩
   ·skip
    refine xpy 19 23 (pq a6 1) rfl (cb a2) (zk rfl xA) hS (xpy 21 23 (iv n) rfl (cb a2) (zx rfl) hS (zI (i := 20) (by kernel_rfl) (Ww (b := false) (sv pa0 pn0 pc0) rfl (tg := 23) (by kernel_rfl) (cb a2) (zo rfl ((Zz Ag34 Sz34 a1 [(iv f.1)] [(sv pa0 pn0 pc0)] [] rfl rfl (fun _ => rfl)) _ (Chg.refl _ _))) rfl (fun _ => hS) (zI (i := 22) (by kernel_rfl) ?_))))
    obtain ⟨r10, b4, hs⟩ := bind_some hs
    refine wz (b := false) rfl (tg := 23) (by kernel_rfl) (cb a2) Bd40 rfl (vb (M := M) f.2 n h0 hO.fut b4) rfl (by rintro _ _ _ ⟨rfl, a5⟩; exact hS.ext a5) ?_
    rintro _ b7 ⟨rfl, a5⟩
    obtain ⟨h0, a1, hC, hO, hS⟩ := xt5 a5 h0 a1 hC hO hS
    refine xq 23 _ rfl (ptb (cb a2) rfl) hS (xq 24 (.bool r10) rfl (zA rfl) hS (xe ?_))
    clear hS
    refine wp_ret ?_
    cases hs
    exact ⟨_, fr_m 29 rfl, hC⟩
   refine xpn 19 23 rfl (cb a2) hS (xpn 20 23 rfl (cb a2) hS (xpn 21 23 rfl (cb a2) hS (xpn 22 23 rfl (cb a2) hS (xq 23 _ rfl (pfb (cb a2) rfl) hS (xq 24 (.bool false) rfl (zA rfl) hS (xe ?_))))))
   clear hS
   refine wp_ret ?_
   cases hs
   exact ⟨_, fr_m 29 rfl, hC⟩
  refine xpn 9 13 rfl (cb a0) hS (xpn 10 13 rfl (cb a0) hS (xpn 11 13 rfl (cb a0) hS (xpn 12 13 rfl (cb a0) hS (xpn 13 13 rfl (cb a0) hS (xpn 14 13 rfl (cb a0) hS (xpn 15 13 rfl (cb a0) hS (xpn 16 13 rfl (cb a0) hS (xq 17 _ rfl (pfb (cb a0) rfl) hS (xmb 18 rfl rfl hS (xpn 19 23 rfl (by rfl) hS (xpn 20 23 rfl (by rfl) hS (xpn 21 23 rfl (by rfl) hS (xpn 22 23 rfl (by rfl) hS (xq 23 _ rfl (pfb (by rfl) rfl) hS (xq 24 (.bool false) rfl (zA rfl) hS (xe ?_))))))))))))))))
  clear hS
  refine wp_ret ?_
  cases hs
  exact ⟨_, fr_m 29 rfl, hC⟩
 refine xpn 4 8 rfl (cb a3) hS (xpn 5 8 rfl (cb a3) hS (xpn 6 8 rfl (cb a3) hS (xq 7 _ rfl (pfb (cb a3) rfl) hS (xmb 8 rfl rfl hS (xpn 9 13 rfl (by rfl) hS (xpn 10 13 rfl (by rfl) hS (xpn 11 13 rfl (by rfl) hS (xpn 12 13 rfl (by rfl) hS (xpn 13 13 rfl (by rfl) hS (xpn 14 13 rfl (by rfl) hS (xpn 15 13 rfl (by rfl) hS (xpn 16 13 rfl (by rfl) hS (xq 17 _ rfl (pfb (by rfl) rfl) hS (xmb 18 rfl rfl hS (xpn 19 23 rfl (by rfl) hS (xpn 20 23 rfl (by rfl) hS (xpn 21 23 rfl (by rfl) hS (xpn 22 23 rfl (by rfl) hS (xq 23 _ rfl (pfb (by rfl) rfl) hS (xq 24 (.bool false) rfl (zA rfl) hS (xe ?_)))))))))))))))))))))
 clear hS
 refine wp_ret ?_
 cases hs
 exact ⟨_, fr_m 29 rfl, hC⟩

theorem Bd84 : zF Tryz.prog 84 := zJ Tryz.func84 (by kernel_rfl) rfl

def wv (M : Nat → Prop) (w0 : World) (r : Bool) (a : Act) (w : World) : Prop :=
  ∃ (σ : Nv) , a = fr 32 (ovl σ [(2, (.bool r))]) ∧ Chg [] w0 w
def Zg (a_ : Int × (List (Int × (List Int)))) : Option (Bool) :=
  (bif (((decide (a_.1 < 1)) || (decide (8 < a_.1))) || (decide (4 < (a_.2.length : Int)))) then some false else (forR (S := Unit) (R := Bool) (fun _ x21 s18 =>
  (xb (x21.1, x21.2) a_.1).bind fun r30 =>
  (bif (!r30) then some (.rt false) else some (.nx ()))) 0 a_.2 ()).bind fun o22 => after o22 (fun r_ => some r_) (fun s18 =>
  some true))
theorem Yz {M : Nat → Prop} {w : World} {pa0 : OA} {pn0 pc0 : Nat} (a_ : tA) (h0 : rp.val M w (sv pa0 pn0 pc0) a_.2 []) (hM : Hm w M) {r : Bool} (hs : Zg a_ = some r) :
    Gives Tryz.prog 57 [(.agg #[(iv a_.1), (sv pa0 pn0 pc0)])] w (fun v w' => v = (.bool r) ∧ Chg [] w w') := by
 refine zr Tryz.func57 rfl Tryz.ntmps57 (nl rfl) ?_
 have hO := Own.start (N := Nw w []) hM Nw.fut
 have hC := Chg.refl [] w
 unfold Zg at hs
 refine wp_k (K := (wv M w r)) (by rintro _ _ ⟨σ, rfl, hrest⟩; exact Za Tryz.results57 (zB rfl) ⟨rfl, hrest⟩) (c_sr ?_)
 obtain ⟨b6, a1, c9, c1, b7, a0⟩ := zg w [(iv a_.1), (sv pa0 pn0 pc0)] 30
 refine za (w' := b6) (pq a1 0) (Zj rfl (by rw [c9, c1]; kernel_rfl)) ?_
 obtain ⟨h0, hC⟩ := xt2 b7 h0 hC
 have hO := hO.new1 b7 c1 a0.lt
 refine ab rfl (zb (zd (zd (yB (I := fun a c2 => ∃ (σ : Nv), a = fr 32 (ovl σ [(1, (pq a1 0)), (2, (.bool false)), (18, (.bool (((decide (a_.1 < 1)) || (decide (8 < a_.1))) || (decide (4 < (a_.2.length : Int))))))]) ∧ Chg [] b6 c2) ?_ ?_))))
 ·have hMid := Chg.refl [] b6
  refine ze (za (pq a1 0) (zk rfl yO) (za _ (ld rfl Ag3 Sz3 a0 rfl) (za _ (zw rfl rfl) (mb rfl ?_))))
  rcases Bool.eq_false_or_eq_true ((decide (a_.1 < 1))) with a5 | a5
  ·skip
   refine pn 8 (cb a5) (pn 8 (cb a5) (pn 8 (cb a5) (za (.bool ((decide (a_.1 < 1)) || (decide (8 < a_.1)))) (yh (cb a5) (cb (by rw [a5]; rfl))) (mb rfl ?_))))
   rcases Bool.eq_false_or_eq_true (((decide (a_.1 < 1)) || (decide (8 < a_.1)))) with a2 | a2
   ·skip
    refine pn 13 (cb a2) (pn 13 (cb a2) (pn 13 (cb a2) (pn 13 (cb a2) (za (.bool (((decide (a_.1 < 1)) || (decide (8 < a_.1))) || (decide (4 < (a_.2.length : Int))))) (yh (cb a2) (cb (by rw [a2]; rfl))) (zb ?_)))))
    exact ⟨_, fr_m 32 rfl, hMid⟩
   refine py 13 (pq a1 1) (cb a2) (zk rfl Zq) (py 13 _ (cb a2) (ld rfl Ag28 Sz28 a0 rfl) (py 13 _ (cb a2) (zn Sl28 (zt h0) rfl) (py 13 _ (cb a2) (YY rfl rfl) (za (.bool (((decide (a_.1 < 1)) || (decide (8 < a_.1))) || (decide (4 < (a_.2.length : Int))))) (ZU (cb a2) (cb (by rw [a2]; rfl))) (zb ?_)))))
   exact ⟨_, fr_m 32 rfl, hMid⟩
  refine py 8 (pq a1 0) (cb a5) (zk rfl yO) (py 8 _ (cb a5) (ld rfl Ag3 Sz3 a0 rfl) (py 8 _ (cb a5) (YY rfl rfl) (za (.bool ((decide (a_.1 < 1)) || (decide (8 < a_.1)))) (ZU (cb a5) (cb (by rw [a5]; rfl))) (mb rfl ?_))))
  rcases Bool.eq_false_or_eq_true (((decide (a_.1 < 1)) || (decide (8 < a_.1)))) with a3 | a3
  ·skip
   refine pn 13 (cb a3) (pn 13 (cb a3) (pn 13 (cb a3) (pn 13 (cb a3) (za (.bool (((decide (a_.1 < 1)) || (decide (8 < a_.1))) || (decide (4 < (a_.2.length : Int))))) (yh (cb a3) (cb (by rw [a3]; rfl))) (zb ?_)))))
   exact ⟨_, fr_m 32 rfl, hMid⟩
  refine py 13 (pq a1 1) (cb a3) (zk rfl Zq) (py 13 _ (cb a3) (ld rfl Ag28 Sz28 a0 rfl) (py 13 _ (cb a3) (zn Sl28 (zt h0) rfl) (py 13 _ (cb a3) (YY rfl rfl) (za (.bool (((decide (a_.1 < 1)) || (decide (8 < a_.1))) || (decide (4 < (a_.2.length : Int))))) (ZU (cb a3) (cb (by rw [a3]; rfl))) (zb ?_)))))
  exact ⟨_, fr_m 32 rfl, hMid⟩
 rintro c3 c2 ⟨σ, rfl, b5⟩
 obtain ⟨h0, a0, hC, hO⟩ := xt4 b5 h0 a0 hC hO
 rcases zf hs with ⟨b8, hs⟩ | ⟨b8, hs⟩
 ·refine zh (cb b8) (c_sr (ab rfl (zb (wp_ret ?_))))
  cases hs
  exact ⟨_, fr_m 32 rfl, hC⟩
 refine zi (cb b8) (wp_skip (zd (c_sr (za (pq a1 1) (zk rfl Zq) (za _ (ld rfl Ag28 Sz28 a0 rfl) (za _ (zn Sl28 (zt h0) rfl) (mi rfl (zb ?_))))))))
 obtain ⟨o22, d0, hs⟩ := bind_some hs
 refine wp_block (YE (id := 0) (I := fun i_ xs_ s18 a a4 => ∃ a6 : Nat, i_ = (a6 : Int) ∧ List.drop a6 a_.2 = xs_ ∧ (∃ (σ : Nv), a = fr 32 (ovl σ [(1, (pq a1 0)), (20, (sv pa0 pn0 pc0)), (21, (iv (a_.2.length : Int))), (22, (iv (a6 : Int)))]) ∧ Chg [] w a4 ∧ Own (Nw w []) M a4 ([a1] ++ []) ∧ rp.val M a4 (sv pa0 pn0 pc0) a_.2 [] ∧ BoxV a4 a1 30 [(iv a_.1), (sv pa0 pn0 pc0)])) (J := fun s18 a a4 => ∃ (σ : Nv), a = fr 32 (ovl σ []) ∧ Chg [] w a4 ∧ Own (Nw w []) M a4 ([a1] ++ []) ∧ rp.val M a4 (sv pa0 pn0 pc0) a_.2 [] ∧ BoxV a4 a1 30 [(iv a_.1), (sv pa0 pn0 pc0)]) (K := (wv M w)) ?_ ?_ a_.2 0 () o22 _ _ ?_ d0 ?_)
 ·rintro _ s18 a a4 ⟨a6, rfl, hd, σ, rfl, hC, hO, h0, a0⟩
  have hlt := ZI hd
  refine c_sr (za _ (zw rfl rfl) (zb (zd (zi (df hlt) (wp_exit ?_)))))
  exact ⟨rfl, _, zG 32 trivial, hC, hO, h0, a0⟩
 ·rintro _ x21 xs_ s18 o22 a a4 ⟨a6, rfl, hd, σ, rfl, hC, hO, h0, a0⟩ hs
  have hlt := ZB hd
  have d1 := Zt hd
  refine c_sr (za _ (zw rfl rfl) (zb (zd (zh (dt hlt) (wp_skip (zd (wp_block (c_sr ?_))))))))
  obtain ⟨d2, d3, d4, b9⟩ := zK Sl28 Sz77 h0 d1
  refine za _ (ip d4 rfl rfl) ?_
  obtain ⟨e4, d5, d6⟩ := Zc Ag77 Sz77 (by intro h; cases h) b9
  obtain ⟨e5, rfl, d7⟩ := d6
  obtain ⟨e6, e7, rfl, d8, d9⟩ := Yn d7
  obtain rfl := Yx d8
  obtain ⟨b0, b1, b2, rfl, a7⟩ := YV d9
  refine za (.agg #[(iv x21.1), (sv b0 b1 b2)]) (zo rfl (d5 _ (Chg.refl _ _))) ?_
  obtain ⟨e0, c4, e1, c5, a8, c6⟩ := zg a4 [(iv 0), (sv none 0 0)] 77
  refine za (w' := e0) (pq c4 0) (YF (by rw [e1, c5]; kernel_rfl)) ?_
  obtain ⟨h0, a0, a7, b9, hC⟩ := xt5 a8 h0 a0 a7 b9 hC
  have hO := hO.new1 a8 c5 c6.lt
  obtain ⟨c7, e2, b3, b4⟩ := Zx (P := Tryz.prog) c6 [] [(iv 0), (sv none 0 0)] [] [(iv x21.1), (sv b0 b1 b2)] rfl rfl (oc rfl)
  refine Zh (w' := c7) (zY rfl rfl (e2 _ _ rfl Sz77)) ?_
  have h0 := h0.mt b3 hO zl
  have a0 := a0.ap b3 hO zl mS
  have a7 := a7.mt b3 hO zl
  have hC := hC.st b3 hO zl
  have hO := hO.ext b3
  have b4 : BoxV c7 c4 77 [(iv x21.1), (sv b0 b1 b2)] := b4
  refine zb (c_sr (za _ (ldw rfl Ag77 b4 Sz77) (za (pq a1 0) (zk rfl yO) (za _ (ld rfl Ag3 Sz3 a0 rfl) ?_))))
  obtain ⟨r30, e3, hs⟩ := bind_some hs
  refine zy Bd84 rfl (zaX (M := M) (x21.1, x21.2) a_.1 a7 hO.fut e3) ?_
  rintro _ e8 ⟨rfl, a9⟩
  obtain ⟨h0, a0, a7, b4, hC, hO⟩ := xt6 a9 h0 a0 a7 b4 hC hO
  refine za _ (ZA rfl) (zb ?_)
  rcases zf hs with ⟨c0, hs⟩ | ⟨c0, hs⟩
  ·refine zh (cb c0) (c_sr (ab rfl (zb (wp_ret ?_))))
   cases hs
   exact ⟨_, fr_m 32 rfl, hC⟩
  refine zi (cb c0) (wp_skip (ze (za _ (yad rfl rfl) (mi rfl (zb ?_)))))
  cases hs
  have hO := hO.drop
  exact ⟨_, rfl, Zk hd, _, zG 32 ⟨rfl, rfl, rfl, congrArg (Value.int .i64) (Yc hlt (Int.natCast_nonneg _) (Xo h0)), trivial⟩, hC, hO, h0, a0⟩
 ·skip
  exact ⟨0, rfl, rfl, _, fr_m 32 rfl, hC, hO, h0, a0⟩
 cases o22 with
 | nx _ => exact True.intro
 | rt r_ =>
  have hs := zq hs
  intro c3 c8 hK
  cases hs
  exact hK
 | br s18 =>
  have hs := zp hs
  rintro c3 a4 ⟨σ, rfl, hC, hO, h0, a0⟩
  refine c_sr (ab rfl (zb (wp_ret ?_)))
  cases hs
  exact ⟨_, fr_m 32 rfl, hC⟩

end Go.Proofs
