/- What functions of the program compute, as plain functions, and that a call gives just that. Conditions: those named in each theorem. -/
import Derived.Test.YtkbacbikbndakaaF0
set_option linter.unusedVariables false
namespace Go.Proofs
open Go.G Go.RowKit
set_option maxRecDepth 100000

def yI (M : Nat → Prop) (w0 : World) (r : (List (List Int)) × Bool) (a : Act) (w : World) : Prop :=
  ∃ (σ : Nat → Value) (ra0 : Option Addr) (rn0 rc0 : Nat), a = fr 172 (ovl σ [(6, (.slice ra0 rn0 rc0)), (7, (.bool r.2))]) ∧ Chg [] w0 w ∧ (RT.rs (RT.rs (RT.int .i64))).val (Past M w0 w) w (.slice ra0 rn0 rc0) r.1 []
def Zn (a_ : Int × (List (Int × (List Int)))) (k : Int) (gens : List (List Int)) : Option ((List (List Int)) × Bool) :=
  (YG (a_.1, a_.2)).bind fun r9 =>
  (forC (S := (List (List Int))) (R := (List (List Int)) × Bool) (fun k28 s26 =>
  (idx gens k28).bind fun x36 =>
  (yR x36).bind fun r41 =>
  (app s26 ([r41])).bind fun y46 =>
  some (.nx y46)) 0 (gens.length : Int) ([])).bind fun o30 => after o30 (fun r_ => some r_) (fun s26 =>
  (forC (S := (List (List Int))) (R := (List (List Int)) × Bool) (fun k66 s64 =>
  (idx a_.2 k66).bind fun x74 =>
  (bif (x74.1 == 0) then (zM (a_.1, a_.2) k66 ([]) k).bind fun r81 =>
  (app s64 ([r81])).bind fun y86 =>
  some (.nx y86) else some (.nx s64))) 0 (a_.2.length : Int) s26).bind fun o68 => after o68 (fun r_ => some r_) (fun s64 =>
  (iter (S := (List (List Int)) × (List (List Int)) × Int) (R := (List (List Int)) × Bool) (fun s249 =>
  (bif (decide (s249.2.2 < (s64.length : Int))) then (idx s64 s249.2.2).bind fun x266 =>
  (zY s249.1 x266).bind fun r271 =>
  (bif (!r271.2) then (idx s64 s249.2.2).bind fun x273 =>
  (ZK s249.1 x273).bind fun r278 =>
  (idx s64 s249.2.2).bind fun x280 =>
  (app s249.2.1 ([x280])).bind fun y287 =>
  some (.nx (r278, y287, w64 (s249.2.2 + 1))) else some (.nx (s249.1, s249.2.1, w64 (s249.2.2 + 1)))) else some (.br (s249.1, s249.2.1, s249.2.2)))) FU ([], [], 0)).bind fun o253 => after o253 (fun r_ => some r_) (fun s249 =>
  (iter (S := (List (List Int)) × (List (List Int)) × Int) (R := (List (List Int)) × Bool) (fun s2566 =>
  (bif ((decide (s2566.2.2 < (s2566.2.1.length : Int))) && (decide ((s2566.2.1.length : Int) ≤ r9))) then (forC (S := (List (List Int)) × (List (List Int))) (R := (List (List Int)) × Bool) (fun k3334 s3332 =>
  (idx a_.2 k3334).bind fun x3359 =>
  (idx a_.2 k3334).bind fun x3362 =>
  (mks x3359.1 (0 : Int)).bind fun y3366 =>
  (iter (S := (List (List Int)) × (List (List Int)) × (List Int) × Bool) (R := (List (List Int)) × Bool) (fun s3591 =>
  (bif (s3591.2.2.2 && (decide ((s3591.2.1.length : Int) ≤ r9))) then (Zd s3591.2.2.1 s2566.2.2).bind fun r3617 =>
  (bif r3617 then (Zm s3591.2.1 s3591.2.2.1).bind fun r3695 =>
  (zM (a_.1, a_.2) k3334 r3695 k).bind fun r3698 =>
  (zY s3591.1 r3698).bind fun r3701 =>
  (bif (!r3701.2) then (ZK s3591.1 r3698).bind fun r3705 =>
  (app s3591.2.1 ([r3698])).bind fun y3710 =>
  some (r3705, y3710, s3591.2.2.1) else some (s3591.1, s3591.2.1, s3591.2.2.1)) else some (s3591.1, s3591.2.1, s3591.2.2.1)).bind fun s3674 =>
  (zK s3674.2.2 (w64 (s2566.2.2 + 1))).bind fun r3714 =>
  some (.nx (s3674.1, s3674.2.1, r3714.1, r3714.2)) else some (.br (s3591.1, s3591.2.1, s3591.2.2.1, s3591.2.2.2)))) FU (s3332.1, s3332.2, y3366, (decide (0 < x3362.1)))).bind fun o3595 => after o3595 (fun r_ => some (.rt r_)) (fun s3591 =>
  some (.nx (s3591.1, s3591.2.1)))) 0 (a_.2.length : Int) (s2566.1, s2566.2.1)).bind fun o3336 => after o3336 (fun r_ => some (.rt r_)) (fun s3332 =>
  some (.nx (s3332.1, s3332.2, w64 (s2566.2.2 + 1)))) else some (.br (s2566.1, s2566.2.1, s2566.2.2)))) FU (s249.1, s249.2.1, 0)).bind fun o2570 => after o2570 (fun r_ => some r_) (fun s2566 =>
  some (s2566.1, (decide ((s2566.1.length : Int) ≤ r9)))))))
set_option maxHeartbeats 4000000 in
theorem Vu {M : Nat → Prop} {w : World} {pa0 : Option Addr} {pn0 pc0 : Nat} {pa1 : Option Addr} {pn1 pc1 : Nat} (a_ : Int × (List (Int × (List Int)))) (k : Int) (gens : List (List Int)) (h0 : (RT.rs (RT.pr ri rl)).val M w (.slice pa0 pn0 pc0) a_.2 ([])) (h1 : (RT.rs rl).val M w (.slice pa1 pn1 pc1) gens ([])) (hM : ∀ g, w.heap.size ≤ g → M g) {r : (List (List Int)) × Bool} (hs : Zn a_ k gens = some r) :
    Gives Try.prog 37 [(.agg #[(iv a_.1), (.slice pa0 pn0 pc0)]), (iv k), (.slice pa1 pn1 pc1)] w (fun v w' => ∃ (ra0 : Option Addr) (rn0 rc0 : Nat), v = (.tuple #[(.slice ra0 rn0 rc0), (.bool r.2)]) ∧ Chg [] w w' ∧ (RT.rs rl).val (Past M w w') w' (.slice ra0 rn0 rc0) r.1 []) := by
 refine zr Try.func37 rfl Try.ntmps37 (Nat.le_of_ble_eq_true rfl) ?_
 have hO := Own.start (N := Nw w []) hM Nw.fut
 have hC := Chg.refl [] w
 unfold Zn at hs
 refine wp_k (K := (yI M w r)) (by rintro _ _ ⟨σ, ra0, rn0, rc0, rfl, hrest⟩; exact wE Try.results37 (zB rfl) (zB rfl) ⟨ra0, rn0, rc0, rfl, hrest⟩) (c_sr ?_)
 obtain ⟨z4, a1, F0, z5, o6, a0⟩ := zi w [(iv a_.1), (.slice pa0 pn0 pc0)] 35
 refine za (w' := z4) (pq a1 0) (ZW rfl (by rw [F0, z5]; kernel_rfl)) ?_
 obtain ⟨h0, h1, hC⟩ := xt3 o6 h0 h1 hC
 have hO := hO.new1 o6 z5 a0.lt
 refine ax rfl (ab rfl (zb (c_sr ?_)))
 obtain ⟨t1, a6, F1, z6, n4, z7⟩ := zi z4 [] 43
 refine za (w' := t1) (.slice (some ⟨a6, 0, none⟩) 0 0) (zG rfl (by rw [F1, z6]; kernel_rfl)) ?_
 obtain ⟨h0, h1, a0, hC⟩ := xt4 n4 h0 h1 a0 hC
 have hO := hO.new1 n4 z6 z7.lt
 have a2 := os0 (r := (RT.os 3 ri)) (M := M) z7
 obtain ⟨z8, a7, F2, z9, k6, A0⟩ := zi t1 [] 43
 refine za (w' := z8) (.slice (some ⟨a7, 0, none⟩) 0 0) (zG rfl (by rw [F2, z9]; kernel_rfl)) ?_
 obtain ⟨h0, h1, a0, a2, hC⟩ := xt5 k6 h0 h1 a0 a2 hC
 have hO := hO.new1 k6 z9 A0.lt
 have a3 := os0 (r := (RT.os 3 ri)) (M := M) A0
 refine za _ (ldw rfl Ag35 a0 Sz35) ?_
 obtain ⟨r9, F3, hs⟩ := bind_some hs
 refine zy Bd69 rfl (VM (M := M) (a_.1, a_.2) h0 hO.fut F3) ?_
 rintro _ F4 ⟨rfl, h6⟩
 obtain ⟨h0, h1, a0, a2, a3, hC, hO⟩ := xt7 h6 h0 h1 a0 a2 a3 hC hO
 refine ax rfl (ax rfl (ai rfl (zb (c_sr ?_))))
 obtain ⟨A1, k7, F5, A2, h7, A3⟩ := zi F4 [] 43
 refine za (w' := A1) (.slice (some ⟨k7, 0, none⟩) 0 0) (zG rfl (by rw [F5, A2]; kernel_rfl)) ?_
 obtain ⟨h0, h1, a0, a2, a3, hC⟩ := xt6 h7 h0 h1 a0 a2 a3 hC
 have hO := hO.new1 h7 A2 A3.lt
 have t2 := os0 (r := (RT.os 3 ri)) (M := M) A3
 refine ax rfl (zb (zd (c_sr (ai rfl (zb ?_)))))
 obtain ⟨o30, F6, hs⟩ := bind_some hs
 refine wp_block (zW (id := 0) (gens.length : Int) (I := fun k28 s26 a b0 => ∃ (σ : Nat → Value) (k8 : Option Addr) (k9 : Nat) (l0 : Nat) (h8 : List Nat), a = fr 172 (ovl σ [(1, (iv k)), (2, (.slice pa1 pn1 pc1)), (3, (pq a1 0)), (8, (.slice (some ⟨a6, 0, none⟩) 0 0)), (9, (.slice (some ⟨a7, 0, none⟩) 0 0)), (10, (iv r9)), (11, (.slice k8 k9 l0)), (12, (iv k28))]) ∧ Chg [] w b0 ∧ Own (Nw w []) M b0 (h8 ++ (([a7]) ++ (([a6]) ++ (([a1]) ++ [])))) ∧ (RT.rs (RT.pr ri rl)).val M b0 (.slice pa0 pn0 pc0) a_.2 ([]) ∧ (RT.rs rl).val M b0 (.slice pa1 pn1 pc1) gens ([]) ∧ BoxV b0 a1 35 [(iv a_.1), (.slice pa0 pn0 pc0)] ∧ (RT.os 43 (RT.os 3 ri)).val M b0 (.slice (some ⟨a6, 0, none⟩) 0 0) ([]) ([a6]) ∧ (RT.os 43 (RT.os 3 ri)).val M b0 (.slice (some ⟨a7, 0, none⟩) 0 0) ([]) ([a7]) ∧ (RT.os 43 (RT.os 3 ri)).val M b0 (.slice k8 k9 l0) s26 h8) (J := fun s26 a b0 => ∃ (σ : Nat → Value) (o7 : Option Addr) (o8 : Nat) (o9 : Nat) (p0 : List Nat), a = fr 172 (ovl σ [(1, (iv k)), (3, (pq a1 0)), (8, (.slice (some ⟨a6, 0, none⟩) 0 0)), (9, (.slice (some ⟨a7, 0, none⟩) 0 0)), (10, (iv r9)), (11, (.slice o7 o8 o9))]) ∧ Chg [] w b0 ∧ Own (Nw w []) M b0 (p0 ++ (([a7]) ++ (([a6]) ++ (([a1]) ++ [])))) ∧ (RT.rs (RT.pr ri rl)).val M b0 (.slice pa0 pn0 pc0) a_.2 ([]) ∧ (RT.rs rl).val M b0 (.slice pa1 pn1 pc1) gens ([]) ∧ BoxV b0 a1 35 [(iv a_.1), (.slice pa0 pn0 pc0)] ∧ (RT.os 43 (RT.os 3 ri)).val M b0 (.slice (some ⟨a6, 0, none⟩) 0 0) ([]) ([a6]) ∧ (RT.os 43 (RT.os 3 ri)).val M b0 (.slice (some ⟨a7, 0, none⟩) 0 0) ([]) ([a7]) ∧ (RT.os 43 (RT.os 3 ri)).val M b0 (.slice o7 o8 o9) s26 p0) (K := (yI M w)) ?_ ?_ 0 ([]) o30 _ _ ?_ F6 ?_)
 ·rintro k28 s26 a b0 ⟨σ, k8, k9, l0, h8, rfl, hC, hO, h0, h1, a0, a2, a3, f8⟩ hlt
  refine zd (c_sr (mi rfl (ms rfl (za _ (zn Sl25 (zu h1) rfl) (za _ (zx rfl rfl) (zb (zh (cb (decide_eq_false hlt)) (wp_exit ?_))))))))
  have hO := hO.fr3.fr3.fr3.fr3
  exact ⟨rfl, _, k8, k9, l0, h8, fr_m 172 rfl, hC, hO, h0, h1, a0, a2, a3, f8⟩
 ·rintro k28 s26 o30 a b0 ⟨σ, k8, k9, l0, h8, rfl, hC, hO, h0, h1, a0, a2, a3, f8⟩ hlt hw hs
  refine zd (c_sr (mi rfl (ms rfl (za _ (zn Sl25 (zu h1) rfl) (za _ (zx rfl rfl) (zb (zg (cb (decide_eq_true hlt)) (wp_skip (zd (wp_block (ze (ms rfl (ms rfl (mi rfl ?_))))))))))))))
  obtain ⟨x36, F7, hs⟩ := bind_some hs
  obtain ⟨F8, F9, G0, n5⟩ := zN Sl25 Sz43 h1 F7
  refine za _ (G0 _ _ _ _ _ _ _ _ _ rfl rfl) ?_
  obtain ⟨Q6, G1, f9⟩ := Zj Ag43 Sz43 (fun _ => rfl) n5
  obtain ⟨G2, G3, G4, rfl⟩ := yd f9
  refine za (.slice G2 G3 G4) (zo rfl (G1 _ (Chg.refl _ _))) ?_
  obtain ⟨r41, G5, hs⟩ := bind_some hs
  refine zy Bd54 rfl (XT (M := M) x36 f9 hO.fut G5) ?_
  rintro _ G6 ⟨A4, A5, A6, p1, rfl, c7, t3, G7⟩
  obtain ⟨h0, h1, a0, a2, a3, f8, f9, n5⟩ := xt8 c7 h0 h1 a0 a2 a3 f8 f9 n5
  have hC := hC.ext c7
  have hO := Own.join0 hO c7 G7
  have hO := hO.perm (R := p1 ++ (h8 ++ (([a7]) ++ (([a6]) ++ (([a1]) ++ ([])))))) (by simp)
  obtain ⟨A7, p2, G8, A8, c4, A9⟩ := zi G6 [(.slice A4 A5 A6)] 43
  refine za (w' := A7) (.slice (some ⟨p2, 0, none⟩) 1 1) (zG rfl (by rw [G8, A8]; kernel_rfl)) ?_
  obtain ⟨h0, h1, a0, a2, a3, f8, f9, t3⟩ := xt8 c4 h0 h1 a0 a2 a3 f8 f9 t3
  obtain ⟨n5, hC⟩ := xt2 c4 n5 hC
  have hO := (hO.new1 c4 A8 A9.lt).perm (R := (p2 :: ((p1) ++ ([]))) ++ (h8 ++ (([a7]) ++ (([a6]) ++ (([a1]) ++ ([])))))) (by simp)
  have G9 := hO.nd
  have t4 := zT (r := (RT.os 3 ri)) (M := M) (css := [[(.slice A4 A5 A6)]]) (fps := [(p1 : List Nat)]) (xs := ([r41] : List (List Int))) A9 ⟨(Zs t3), trivial⟩ (Nat.le_of_ble_eq_true rfl) G9
  have t4 : (RT.os 43 (RT.os 3 ri)).val M A7 (.slice (some ⟨p2, 0, none⟩) 1 1) [r41] (p2 :: ((p1) ++ ([]))) := t4
  obtain ⟨y46, H0, hs⟩ := bind_some hs
  have hO := hO.fr1
  obtain ⟨t5, t6, t7, H1, H2, H3, g0, H4, t8⟩ := Yc Rw25 H0 f8 t4 hO.inM (fun g hg hq => hO.apart g hq (zm hg))
  have h9 := zA f8
  refine za (w' := H1) (.slice t5 t6 t7) (zU rfl rfl (H3 _)) ?_
  have hO := hO.fr1.fr1
  have h0 := h0.mt g0 hO h9
  have h1 := h1.mt g0 hO h9
  have a0 := a0.ap g0 hO h9 (zl (zl (zl (zm (List.mem_singleton.2 rfl)))))
  have a2 := a2.ma g0 hO h9 (fun _ e => (zl (zl (zm (e)))))
  have a3 := a3.ma g0 hO h9 (fun _ e => (zl (zm (e))))
  have f9 := f9.mt g0 hO h9
  have hC := hC.st g0 hO h9
  have hO := hO.eat g0 H4 (zw t8) t8.fpl
  refine ax rfl (zb (ze (mi rfl (za _ (yad rfl rfl) (ai rfl (zb ?_))))))
  cases hs
  have hO := hO.fr3.fr3.fr3.fr3
  exact ⟨_, t5, t6, t7, H2, zD 172 ⟨rfl, rfl, rfl, rfl, rfl, rfl, rfl, congrArg (Value.int .i64) hw, trivial⟩, hC, hO, h0, h1, a0, a2, a3, t8⟩
 ·skip
  have hO := hO.fr3.fr3.fr3.fr3
  exact ⟨_, (some ⟨k7, 0, none⟩), 0, 0, ([k7]), fr_m 172 rfl, hC, hO, h0, h1, a0, a2, a3, t2⟩
 cases o30 with
 | nx _ => exact True.intro
 | rt r_ =>
  have hs := zp hs
  intro b8 k5 hK
  cases hs
  exact hK
 | br s26 =>
  have hs := zq hs
  rintro b8 b0 ⟨σ, o7, o8, o9, p0, rfl, hC, hO, h0, h1, a0, a2, a3, H5⟩
  refine zd (c_sr (ai rfl (zb ?_)))
  obtain ⟨o68, H6, hs⟩ := bind_some hs
  refine wp_block (zW (id := 2) (a_.2.length : Int) (I := fun k66 s64 a b2 => ∃ (σ : Nat → Value) (i0 : Option Addr) (i1 : Nat) (i2 : Nat) (g1 : List Nat), a = fr 172 (ovl σ [(1, (iv k)), (3, (pq a1 0)), (8, (.slice (some ⟨a6, 0, none⟩) 0 0)), (9, (.slice (some ⟨a7, 0, none⟩) 0 0)), (10, (iv r9)), (11, (.slice i0 i1 i2)), (13, (iv k66))]) ∧ Chg [] w b2 ∧ Own (Nw w []) M b2 (g1 ++ (([a7]) ++ (([a6]) ++ (([a1]) ++ [])))) ∧ (RT.rs (RT.pr ri rl)).val M b2 (.slice pa0 pn0 pc0) a_.2 ([]) ∧ BoxV b2 a1 35 [(iv a_.1), (.slice pa0 pn0 pc0)] ∧ (RT.os 43 (RT.os 3 ri)).val M b2 (.slice (some ⟨a6, 0, none⟩) 0 0) ([]) ([a6]) ∧ (RT.os 43 (RT.os 3 ri)).val M b2 (.slice (some ⟨a7, 0, none⟩) 0 0) ([]) ([a7]) ∧ (RT.os 43 (RT.os 3 ri)).val M b2 (.slice i0 i1 i2) s64 g1) (J := fun s64 a b2 => ∃ (σ : Nat → Value) (c8 : Option Addr) (c9 : Nat) (d0 : Nat) (t9 : List Nat), a = fr 172 (ovl σ [(1, (iv k)), (3, (pq a1 0)), (8, (.slice (some ⟨a6, 0, none⟩) 0 0)), (9, (.slice (some ⟨a7, 0, none⟩) 0 0)), (10, (iv r9)), (11, (.slice c8 c9 d0))]) ∧ Chg [] w b2 ∧ Own (Nw w []) M b2 (t9 ++ (([a7]) ++ (([a6]) ++ (([a1]) ++ [])))) ∧ (RT.rs (RT.pr ri rl)).val M b2 (.slice pa0 pn0 pc0) a_.2 ([]) ∧ BoxV b2 a1 35 [(iv a_.1), (.slice pa0 pn0 pc0)] ∧ (RT.os 43 (RT.os 3 ri)).val M b2 (.slice (some ⟨a6, 0, none⟩) 0 0) ([]) ([a6]) ∧ (RT.os 43 (RT.os 3 ri)).val M b2 (.slice (some ⟨a7, 0, none⟩) 0 0) ([]) ([a7]) ∧ (RT.os 43 (RT.os 3 ri)).val M b2 (.slice c8 c9 d0) s64 t9) (K := (yI M w)) ?_ ?_ 0 s26 o68 _ _ ?_ H6 ?_)
  ·rintro k66 s64 a b2 ⟨σ, i0, i1, i2, g1, rfl, hC, hO, h0, a0, a2, a3, c5⟩ hlt
   refine zd (c_sr (mi rfl (za (pq a1 1) (zk rfl ZD) (za _ (ld rfl Ag33 Sz33 a0 rfl) (za _ (zn Sl33 (zu h0) rfl) (za _ (zx rfl rfl) (zb (zh (cb (decide_eq_false hlt)) (wp_exit ?_)))))))))
   have hO := hO.fr3.fr3.fr3.fr3
   exact ⟨rfl, _, i0, i1, i2, g1, fr_m 172 rfl, hC, hO, h0, a0, a2, a3, c5⟩
  ·rintro k66 s64 o68 a b2 ⟨σ, i0, i1, i2, g1, rfl, hC, hO, h0, a0, a2, a3, c5⟩ hlt hw hs
   refine zd (c_sr (mi rfl (za (pq a1 1) (zk rfl ZD) (za _ (ld rfl Ag33 Sz33 a0 rfl) (za _ (zn Sl33 (zu h0) rfl) (za _ (zx rfl rfl) (zb (zg (cb (decide_eq_true hlt)) (wp_skip (zd (wp_block (c_sr (za (pq a1 1) (zk rfl ZD) (za _ (ld rfl Ag33 Sz33 a0 rfl) (mi rfl ?_)))))))))))))))
   obtain ⟨x74, H7, hs⟩ := bind_some hs
   obtain ⟨B0, B1, H8, H9⟩ := zN Sl33 Sz89 h0 H7
   refine za _ (H8 _ _ _ _ _ _ _ _ _ rfl rfl) ?_
   obtain ⟨I0, _⟩ := wF H9
   refine za (.pointer (some ⟨B0, B1 + 0, none⟩)) (zk rfl yM) (za (iv x74.1) (zo rfl ((zz Ag3 Sz3 I0) _ (Chg.refl _ _))) (za (.bool (x74.1 == 0)) (xz rfl rfl) (zb ?_)))
   rcases zf hs with ⟨u0, hs⟩ | ⟨u0, hs⟩
   ·refine zg (cb u0) (ze (ms rfl (za _ (ldw rfl Ag35 a0 Sz35) (mi rfl ?_))))
    obtain ⟨B2, l1, I1, B3, i3, B4⟩ := zi b2 [] 43
    refine za (w' := B2) (.slice (some ⟨l1, 0, none⟩) 0 0) (zG rfl (by rw [I1, B3]; kernel_rfl)) ?_
    obtain ⟨h0, a0, a2, a3, c5, hC⟩ := xt6 i3 h0 a0 a2 a3 c5 hC
    have hO := hO.new1 i3 B3 B4.lt
    have e4 := os0 (r := (RT.os 3 ri)) (M := M) B4
    refine mi rfl ?_
    obtain ⟨r81, I2, hs⟩ := bind_some hs
    refine zy Bd70 rfl (xh (M := (Less M ([l1]))) (a_.1, a_.2) k66 ([]) k (h0.sub Less.sub) (((Frz.os (Frz.os Frz.int))).val e4 Less.sub Less.not) hO.less.fut I2) ?_
    rintro _ I3 ⟨B5, B6, B7, p3, rfl, g2, n6, I4⟩
    obtain ⟨h0, a0, a2, a3, c5, e4, hC⟩ := xt7 g2 h0 a0 a2 a3 c5 e4 hC
    have hO := Own.join0 hO g2 I4
    have hO := hO.perm (R := p3 ++ (([l1]) ++ (g1 ++ (([a7]) ++ (([a6]) ++ (([a1]) ++ ([]))))))) (by simp)
    have n6 := n6.free (M' := M) (Free.os Free.int)
    obtain ⟨B8, p4, I5, B9, e5, C0⟩ := zi I3 [(.slice B5 B6 B7)] 43
    refine za (w' := B8) (.slice (some ⟨p4, 0, none⟩) 1 1) (zG rfl (by rw [I5, B9]; kernel_rfl)) ?_
    obtain ⟨h0, a0, a2, a3, c5, e4, n6, hC⟩ := xt8 e5 h0 a0 a2 a3 c5 e4 n6 hC
    have hO := (hO.new1 e5 B9 C0.lt).perm (R := (p4 :: ((p3) ++ ([]))) ++ (([l1]) ++ (g1 ++ (([a7]) ++ (([a6]) ++ (([a1]) ++ ([]))))))) (by simp)
    have I6 := hO.nd
    have u1 := zT (r := (RT.os 3 ri)) (M := M) (css := [[(.slice B5 B6 B7)]]) (fps := [(p3 : List Nat)]) (xs := ([r81] : List (List Int))) C0 ⟨(Zs n6), trivial⟩ (Nat.le_of_ble_eq_true rfl) I6
    have u1 : (RT.os 43 (RT.os 3 ri)).val M B8 (.slice (some ⟨p4, 0, none⟩) 1 1) [r81] (p4 :: ((p3) ++ ([]))) := u1
    obtain ⟨y86, I7, hs⟩ := bind_some hs
    have hO := hO.fr2
    obtain ⟨u2, u3, u4, I8, I9, J0, i4, J1, u5⟩ := Yc Rw25 I7 c5 u1 hO.inM (fun g hg hq => hO.apart g hq (zm hg))
    have l2 := zA c5
    refine za (w' := I8) (.slice u2 u3 u4) (zU rfl rfl (J0 _)) ?_
    have hO := hO.fr1.fr1
    have h0 := h0.mt i4 hO l2
    have a0 := a0.ap i4 hO l2 (zl (zl (zl (zl (zm (List.mem_singleton.2 rfl))))))
    have a2 := a2.ma i4 hO l2 (fun _ e => (zl (zl (zl (zm (e))))))
    have a3 := a3.ma i4 hO l2 (fun _ e => (zl (zl (zm (e)))))
    have e4 := e4.ma i4 hO l2 (fun _ e => (zl (zm (e))))
    have hC := hC.st i4 hO l2
    have hO := hO.eat i4 J1 (zw u5) u5.fpl
    refine ax rfl (zb (ze (mi rfl (za _ (yad rfl rfl) (ai rfl (zb ?_))))))
    cases hs
    have hO := hO.fr1.drop.fr3.fr3.fr3.fr3
    exact ⟨_, u2, u3, u4, I9, zD 172 ⟨rfl, rfl, rfl, rfl, rfl, rfl, congrArg (Value.int .i64) hw, trivial⟩, hC, hO, h0, a0, a2, a3, u5⟩
   refine zh (cb u0) (wp_skip (ze (mi rfl (za _ (yad rfl rfl) (ai rfl (zb ?_))))))
   cases hs
   have hO := hO.fr3.fr3.fr3.fr3
   exact ⟨_, i0, i1, i2, g1, zD 172 ⟨rfl, rfl, rfl, rfl, rfl, rfl, congrArg (Value.int .i64) hw, trivial⟩, hC, hO, h0, a0, a2, a3, c5⟩
  ·skip
   have hO := hO.fr3.fr3.fr3.fr3
   exact ⟨_, o7, o8, o9, p0, fr_m 172 rfl, hC, hO, h0, a0, a2, a3, H5⟩
  cases o68 with
  | nx _ => exact True.intro
  | rt r_ =>
   have hs := zp hs
   intro b8 k5 hK
   cases hs
   exact hK
  | br s64 =>
   have hs := zq hs
   rintro b8 b2 ⟨σ, c8, c9, d0, t9, rfl, hC, hO, h0, a0, a2, a3, n7⟩
   refine zd (c_sr (ai rfl (zb ?_)))
   have hO := hO.fr2
   obtain ⟨u6, Q7, u7, J2, hO, n8⟩ := xx (Frz.os (Frz.os Frz.int)) a2 hO
   have h0 := h0.sub u7
   have a3 := a3.sub u7
   have n7 := n7.sub u7
   have hK := J2
   have hO := hO.fr1
   obtain ⟨u9, J3, v0, J4, hO, v1⟩ := xA (Frz.os Frz.int) a3 hO
   have h0 := h0.sub v0
   have n8 := n8.sub v0
   have n7 := n7.sub v0
   have hK := hK.trans J4
   have hO := hO.fr1
   obtain ⟨p5, Q8, v2, J5, hO, b1⟩ := xx (Frz.os (Frz.os Frz.int)) n7 hO
   have h0 := h0.sub v2
   have n8 := n8.sub v2
   have v1 := v1.sub v2
   have hK := hK.trans J5
   obtain ⟨o253, J6, hs⟩ := bind_some hs
   refine wp_block (Zt (id := 4) (I := fun s249 a b5 => ∃ (σ : Nat → Value) (a8 : Nat → Prop) (i5 : Option Addr) (i6 : Nat) (i7 : Nat) (l3 : Option Addr) (l4 : Nat) (l5 : Nat) (n9 : List Nat), a = fr 172 (ovl σ [(1, (iv k)), (3, (pq a1 0)), (8, (.slice i5 i6 i7)), (9, (.slice l3 l4 l5)), (10, (iv r9)), (11, (.slice c8 c9 d0)), (14, (iv s249.2.2))]) ∧ Chg [] w b5 ∧ Own (Nw w []) a8 b5 (n9 ++ (([a1]) ++ [])) ∧ Keeps w M a8 ∧ (RT.rs (RT.pr ri rl)).val a8 b5 (.slice pa0 pn0 pc0) a_.2 ([]) ∧ BoxV b5 a1 35 [(iv a_.1), (.slice pa0 pn0 pc0)] ∧ (RT.rs rl).val a8 b5 (.slice c8 c9 d0) s64 ([]) ∧ (RT.rs rl).val a8 b5 (.slice i5 i6 i7) s249.1 ([]) ∧ (RT.os 43 rl).val a8 b5 (.slice l3 l4 l5) s249.2.1 n9) (J := fun s249 a b5 => ∃ (σ : Nat → Value) (g3 : Nat → Prop) (p6 : Option Addr) (p7 : Nat) (p8 : Nat) (p9 : Option Addr) (q0 : Nat) (q1 : Nat) (q2 : List Nat), a = fr 172 (ovl σ [(1, (iv k)), (3, (pq a1 0)), (8, (.slice p6 p7 p8)), (9, (.slice p9 q0 q1)), (10, (iv r9))]) ∧ Chg [] w b5 ∧ Own (Nw w []) g3 b5 (q2 ++ (([a1]) ++ [])) ∧ Keeps w M g3 ∧ (RT.rs (RT.pr ri rl)).val g3 b5 (.slice pa0 pn0 pc0) a_.2 ([]) ∧ BoxV b5 a1 35 [(iv a_.1), (.slice pa0 pn0 pc0)] ∧ (RT.rs rl).val g3 b5 (.slice c8 c9 d0) s64 ([]) ∧ (RT.rs rl).val g3 b5 (.slice p6 p7 p8) s249.1 ([]) ∧ (RT.os 43 rl).val g3 b5 (.slice p9 q0 q1) s249.2.1 q2) (K := (yI M w)) ?_ FU ([], [], 0) o253 _ _ ?_ J6 ?_)
   ·rintro s249 o253 a b5 ⟨σ, a8, i5, i6, i7, l3, l4, l5, n9, rfl, hC, hO, hK, h0, a0, b1, d1, c2⟩ hs
    refine zd (c_sr (mi rfl (ms rfl (za _ (zn Sl25 (zu b1) rfl) (za _ (zx rfl rfl) (zb ?_))))))
    rcases zf hs with ⟨v3, hs⟩ | ⟨v3, hs⟩
    ·refine zg (cb v3) (wp_skip (zd (wp_block (c_sr (ms rfl (ms rfl (mi rfl ?_)))))))
     obtain ⟨x266, J7, hs⟩ := bind_some hs
     obtain ⟨J8, J9, K0, v4⟩ := zN Sl25 Sz43 b1 J7
     refine za _ (K0 _ _ _ _ _ _ _ _ _ rfl rfl) ?_
     obtain ⟨Q9, K1, q3⟩ := Zj Ag43 Sz43 (fun _ => rfl) v4
     obtain ⟨K2, K3, K4, rfl⟩ := yd q3
     refine za (.slice K2 K3 K4) (zo rfl (K1 _ (Chg.refl _ _))) ?_
     obtain ⟨r271, K5, hs⟩ := bind_some hs
     refine zy Bd46 rfl (YK (M := a8) s249.1 x266 d1 q3 hO.fut K5) ?_
     rintro _ e6 ⟨rfl, e7⟩
     obtain ⟨h0, a0, b1, d1, c2, q3, v4, hC⟩ := xt8 e7 h0 a0 b1 d1 c2 q3 v4 hC
     have hO := hO.ext e7
     refine za (.tuple #[(iv r271.1), (.bool r271.2)]) (zt rfl) (za (iv r271.1) (zO rfl (by kernel_rfl)) (za (.bool r271.2) (zO rfl (by kernel_rfl)) (ai rfl (ab rfl (zb (c_sr (mb rfl (za _ (ZQ rfl) (zb ?_)))))))))
     rcases zf hs with ⟨v5, hs⟩ | ⟨v5, hs⟩
     ·refine zg (cb v5) (c_sr (ms rfl (ms rfl (mi rfl ?_))))
      obtain ⟨x273, K6, hs⟩ := bind_some hs
      obtain ⟨K7, K8, K9, v6⟩ := zN Sl25 Sz43 b1 K6
      refine za _ (K9 _ _ _ _ _ _ _ _ _ rfl rfl) ?_
      obtain ⟨R0, L0, l6⟩ := Zj Ag43 Sz43 (fun _ => rfl) v6
      obtain ⟨L1, L2, L3, rfl⟩ := yd l6
      refine za (.slice L1 L2 L3) (zo rfl (L0 _ (Chg.refl _ _))) ?_
      obtain ⟨r278, L4, hs⟩ := bind_some hs
      refine zy Bd71 rfl (Wv (M := a8) s249.1 x273 d1 l6 hO.fut L4) ?_
      rintro _ d2 ⟨C1, C2, C3, rfl, e8, o0⟩
      have hK := hK.trans (show Keeps w a8 (Past a8 e6 d2) from Keeps.past hC.size)
      obtain ⟨h0, a0, b1, d1, c2, l6, v6, hC⟩ := xt8 e8 h0 a0 b1 d1 c2 l6 v6 hC
      have hO := hO.past e8
      have h0 := h0.sub (M' := (Past a8 e6 d2)) (fun g hg => .inl hg.1)
      have b1 := b1.sub (M' := (Past a8 e6 d2)) (fun g hg => .inl hg.1)
      have d1 := d1.sub (M' := (Past a8 e6 d2)) (fun g hg => .inl hg.1)
      have c2 := c2.sub (M' := (Past a8 e6 d2)) (fun g hg => .inl hg.1)
      have l6 := l6.sub (M' := (Past a8 e6 d2)) (fun g hg => .inl hg.1)
      refine ax rfl (zb (ze (ms rfl (ms rfl (mi rfl ?_)))))
      obtain ⟨x280, L5, hs⟩ := bind_some hs
      obtain ⟨L6, L7, L8, v7⟩ := zN Sl25 Sz43 b1 L5
      refine za _ (L8 _ _ _ _ _ _ _ _ _ rfl rfl) ?_
      obtain ⟨R1, L9, l7⟩ := Zj Ag43 Sz43 (fun _ => rfl) v7
      obtain ⟨v8, v9, w1, rfl⟩ := yd l7
      refine za (.slice v8 v9 w1) (zo rfl (L9 _ (Chg.refl _ _))) ?_
      obtain ⟨C4, w2, M0, C5, e9, C6⟩ := zi d2 [(.slice v8 v9 w1)] 43
      refine za (w' := C4) (.slice (some ⟨w2, 0, none⟩) 1 1) (zG rfl (by rw [M0, C5]; kernel_rfl)) ?_
      obtain ⟨h0, a0, b1, c2, o0, l7, v7, hC⟩ := xt8 e9 h0 a0 b1 c2 o0 l7 v7 hC
      have hO := hO.new1 e9 C5 C6.lt
      have w3 := zT (r := rl) (M := (Past a8 e6 d2)) (css := [[(.slice v8 v9 w1)]]) (fps := [([] : List Nat)]) (xs := ([x280] : List (List Int))) C6 ⟨(yq l7), trivial⟩ (Nat.le_of_ble_eq_true rfl) (List.nodup_cons.2 ⟨(fun h => nomatch h), List.nodup_nil⟩)
      have w3 : (RT.os 43 rl).val (Past a8 e6 d2) C4 (.slice (some ⟨w2, 0, none⟩) 1 1) [x280] [w2] := w3
      obtain ⟨y287, M1, hs⟩ := bind_some hs
      have hO := hO.fr1
      obtain ⟨w4, w5, w6, M2, M3, M4, i9, M5, w7⟩ := Yc Rw25 M1 c2 w3 hO.inM (fun g hg hq => hO.apart g hq (zm hg))
      have l8 := zA c2
      refine za (w' := M2) (.slice w4 w5 w6) (zU rfl rfl (M4 _)) ?_
      have hO := hO.fr1.fr1
      have h0 := h0.mt i9 hO l8
      have a0 := a0.ap i9 hO l8 (zl (zm (List.mem_singleton.2 rfl)))
      have b1 := b1.mt i9 hO l8
      have o0 := o0.mt i9 hO l8
      have l7 := l7.mt i9 hO l8
      have hC := hC.st i9 hO l8
      have hO := hO.eat i9 M5 (zw w7) w7.fpl
      refine ax rfl (zb (ze (mi rfl (za _ (yad rfl rfl) (ai rfl (zb ?_))))))
      cases hs
      have hO := hO.fr1.fr1
      exact ⟨_, (Past a8 e6 d2), C1, C2, C3, w4, w5, w6, M3, fr_m 172 rfl, hC, hO, hK, h0, a0, b1, o0, w7⟩
     refine zh (cb v5) (wp_skip (ze (mi rfl (za _ (yad rfl rfl) (ai rfl (zb ?_))))))
     cases hs
     have hO := hO.fr1.fr1
     exact ⟨_, a8, i5, i6, i7, l3, l4, l5, n9, fr_m 172 rfl, hC, hO, hK, h0, a0, b1, d1, c2⟩
    refine zh (cb v3) (wp_exit ?_)
    cases hs
    have hO := hO.fr1.fr1
    exact ⟨rfl, _, a8, i5, i6, i7, l3, l4, l5, n9, fr_m 172 rfl, hC, hO, hK, h0, a0, b1, d1, c2⟩
   ·skip
    have hO := hO.fr1.fr1
    exact ⟨_, p5, (some ⟨a6, 0, none⟩), 0, 0, (some ⟨a7, 0, none⟩), 0, 0, J3, fr_m 172 rfl, hC, hO, hK, h0, a0, b1, n8, v1⟩
   cases o253 with
   | nx _ => exact True.intro
   | rt r_ =>
    have hs := zp hs
    intro b8 k5 hK
    cases hs
    exact hK
   | br s249 =>
    have hs := zq hs
    rintro b8 b5 ⟨σ, g3, p6, p7, p8, p9, q0, q1, q2, rfl, hC, hO, hK, h0, a0, b1, M6, M7⟩
    refine zd (c_sr (ai rfl (zb ?_)))
    obtain ⟨o2570, M8, hs⟩ := bind_some hs
    refine wp_block (Zt (id := 6) (I := fun s2566 a b6 => ∃ (σ : Nat → Value) (g4 : Nat → Prop) (l9 : Option Addr) (m0 : Nat) (m1 : Nat) (g5 : Option Addr) (g6 : Nat) (g7 : Nat) (o1 : List Nat), a = fr 172 (ovl σ [(1, (iv k)), (3, (pq a1 0)), (8, (.slice l9 m0 m1)), (9, (.slice g5 g6 g7)), (10, (iv r9)), (17, (iv s2566.2.2))]) ∧ Chg [] w b6 ∧ Own (Nw w []) g4 b6 (o1 ++ (([a1]) ++ [])) ∧ Keeps w M g4 ∧ (RT.rs (RT.pr ri rl)).val g4 b6 (.slice pa0 pn0 pc0) a_.2 ([]) ∧ BoxV b6 a1 35 [(iv a_.1), (.slice pa0 pn0 pc0)] ∧ (RT.rs rl).val g4 b6 (.slice l9 m0 m1) s2566.1 ([]) ∧ (RT.os 43 rl).val g4 b6 (.slice g5 g6 g7) s2566.2.1 o1) (J := fun s2566 a b6 => ∃ (σ : Nat → Value) (m2 : Nat → Prop) (j0 : Option Addr) (j1 : Nat) (j2 : Nat) (C7 : Option Addr) (C8 : Nat) (C9 : Nat) (w8 : List Nat), a = fr 172 (ovl σ [(8, (.slice j0 j1 j2)), (10, (iv r9))]) ∧ Chg [] w b6 ∧ Own (Nw w []) m2 b6 (w8 ++ (([a1]) ++ [])) ∧ Keeps w M m2 ∧ (RT.rs (RT.pr ri rl)).val m2 b6 (.slice pa0 pn0 pc0) a_.2 ([]) ∧ BoxV b6 a1 35 [(iv a_.1), (.slice pa0 pn0 pc0)] ∧ (RT.rs rl).val m2 b6 (.slice j0 j1 j2) s2566.1 ([]) ∧ (RT.os 43 rl).val m2 b6 (.slice C7 C8 C9) s2566.2.1 w8) (K := (yI M w)) ?_ FU (s249.1, s249.2.1, 0) o2570 _ _ ?_ M8 ?_)
    ·rintro s2566 o2570 a b6 ⟨σ, g4, l9, m0, m1, g5, g6, g7, o1, rfl, hC, hO, hK, h0, a0, q4, m3⟩ hs
     refine zd (zd (yO (I := fun a D0 => ∃ (σ : Nat → Value), a = fr 172 (ovl σ [(1, (iv k)), (3, (pq a1 0)), (8, (.slice l9 m0 m1)), (9, (.slice g5 g6 g7)), (10, (iv r9)), (17, (iv s2566.2.2)), (104, (.bool ((decide (s2566.2.2 < (s2566.2.1.length : Int))) && (decide ((s2566.2.1.length : Int) ≤ r9)))))]) ∧ Chg [] b6 D0) ?_ ?_))
     ·have hMid := Chg.refl [] b6
      refine ze (mi rfl (ms rfl (za _ (zn Sl25 (ZV m3) rfl) (za _ (zx rfl rfl) (mb rfl ?_)))))
      rcases Bool.eq_false_or_eq_true ((decide (s2566.2.2 < (s2566.2.1.length : Int)))) with b9 | b9
      ·skip
       refine py 99 (.slice g5 g6 g7) (cb b9) (zt rfl) (py 99 _ (cb b9) (zn Sl25 (ZV m3) rfl) (py 99 (iv r9) (cb b9) (zt rfl) (py 99 _ (cb b9) (XF rfl rfl) (za (.bool ((decide (s2566.2.2 < (s2566.2.1.length : Int))) && (decide ((s2566.2.1.length : Int) ≤ r9)))) (ZT (cb b9) (cb (by rw [b9]; rfl))) (zb ?_)))))
       exact ⟨_, fr_m 172 rfl, hMid⟩
      refine pn 99 (cb b9) (pn 99 (cb b9) (pn 99 (cb b9) (pn 99 (cb b9) (za (.bool ((decide (s2566.2.2 < (s2566.2.1.length : Int))) && (decide ((s2566.2.1.length : Int) ≤ r9)))) (ZF (cb b9) (cb (by rw [b9]; rfl))) (zb ?_)))))
      exact ⟨_, fr_m 172 rfl, hMid⟩
     rintro b8 D0 ⟨σ, rfl, m4⟩
     obtain ⟨h0, a0, q4, m3, hC, hO⟩ := xt6 m4 h0 a0 q4 m3 hC hO
     rcases zf hs with ⟨w9, hs⟩ | ⟨w9, hs⟩
     ·refine zg (cb w9) (wp_skip (zd (wp_block (c_sr (ai rfl (zb ?_))))))
      obtain ⟨o3336, M9, hs⟩ := bind_some hs
      refine wp_block (zW (id := 8) (a_.2.length : Int) (I := fun k3334 s3332 a b4 => ∃ (σ : Nat → Value) (d3 : Nat → Prop) (m5 : Option Addr) (m6 : Nat) (m7 : Nat) (m8 : Option Addr) (m9 : Nat) (n0 : Nat) (n1 : List Nat), a = fr 172 (ovl σ [(1, (iv k)), (3, (pq a1 0)), (8, (.slice m5 m6 m7)), (9, (.slice m8 m9 n0)), (10, (iv r9)), (17, (iv s2566.2.2)), (18, (iv k3334))]) ∧ Chg [] w b4 ∧ Own (Nw w []) d3 b4 (n1 ++ (([a1]) ++ [])) ∧ Keeps w M d3 ∧ (RT.rs (RT.pr ri rl)).val d3 b4 (.slice pa0 pn0 pc0) a_.2 ([]) ∧ BoxV b4 a1 35 [(iv a_.1), (.slice pa0 pn0 pc0)] ∧ (RT.rs rl).val d3 b4 (.slice m5 m6 m7) s3332.1 ([]) ∧ (RT.os 43 rl).val d3 b4 (.slice m8 m9 n0) s3332.2 n1) (J := fun s3332 a b4 => ∃ (σ : Nat → Value) (j3 : Nat → Prop) (q5 : Option Addr) (q6 : Nat) (q7 : Nat) (q8 : Option Addr) (q9 : Nat) (r0 : Nat) (r1 : List Nat), a = fr 172 (ovl σ [(1, (iv k)), (3, (pq a1 0)), (8, (.slice q5 q6 q7)), (9, (.slice q8 q9 r0)), (10, (iv r9)), (17, (iv s2566.2.2))]) ∧ Chg [] w b4 ∧ Own (Nw w []) j3 b4 (r1 ++ (([a1]) ++ [])) ∧ Keeps w M j3 ∧ (RT.rs (RT.pr ri rl)).val j3 b4 (.slice pa0 pn0 pc0) a_.2 ([]) ∧ BoxV b4 a1 35 [(iv a_.1), (.slice pa0 pn0 pc0)] ∧ (RT.rs rl).val j3 b4 (.slice q5 q6 q7) s3332.1 ([]) ∧ (RT.os 43 rl).val j3 b4 (.slice q8 q9 r0) s3332.2 r1) (K := (yI M w)) ?_ ?_ 0 (s2566.1, s2566.2.1) o3336 _ _ ?_ M9 ?_)
      ·rintro k3334 s3332 a b4 ⟨σ, d3, m5, m6, m7, m8, m9, n0, n1, rfl, hC, hO, hK, h0, a0, j4, j5⟩ hlt
       refine zd (c_sr (mi rfl (za (pq a1 1) (zk rfl ZD) (za _ (ld rfl Ag33 Sz33 a0 rfl) (za _ (zn Sl33 (zu h0) rfl) (za _ (zx rfl rfl) (zb (zh (cb (decide_eq_false hlt)) (wp_exit ?_)))))))))
       have hO := hO.fr1.fr1
       exact ⟨rfl, _, d3, m5, m6, m7, m8, m9, n0, n1, fr_m 172 rfl, hC, hO, hK, h0, a0, j4, j5⟩
      ·rintro k3334 s3332 o3336 a b4 ⟨σ, d3, m5, m6, m7, m8, m9, n0, n1, rfl, hC, hO, hK, h0, a0, j4, j5⟩ hlt hw hs
       refine zd (c_sr (mi rfl (za (pq a1 1) (zk rfl ZD) (za _ (ld rfl Ag33 Sz33 a0 rfl) (za _ (zn Sl33 (zu h0) rfl) (za _ (zx rfl rfl) (zb (zg (cb (decide_eq_true hlt)) (wp_skip (zd (wp_block (zd (Ze [] Mx rfl ?_)))))))))))))
       have j6 := Chg.drew b4
       generalize World.drew b4 = D1 at j6 ⊢
       obtain ⟨h0, a0, j4, j5, hC, hO⟩ := xt6 j6 h0 a0 j4 j5 hC hO
       have hS := Chg.refl [] D1
       refine xq 0 (pq a1 1) rfl (zk rfl ZD) hS (xl 1 rfl (ldx rfl Ag33 Sz33 a0 rfl) hS (xmi 2 rfl rfl hS ?_))
       obtain ⟨x3359, N0, hs⟩ := bind_some hs
       obtain ⟨D2, D3, N1, x0⟩ := zN Sl33 Sz89 h0 N0
       refine xq 3 _ rfl (N1 _ _ _ _ _ _ _ _ _ rfl rfl) hS ?_
       obtain ⟨x1, _⟩ := wF x0
       refine xq 4 (.pointer (some ⟨D2, D3 + 0, none⟩)) rfl (zk rfl yM) hS (x_l 5 (iv x3359.1) rfl (by kernel_rfl)  (fun w' hw' => zo rfl ((zz Ag3 Sz3 x1) w' hw')) hS (xq 7 (pq a1 1) rfl (zk rfl ZD) hS (xl 8 rfl (ldx rfl Ag33 Sz33 a0 rfl) hS (xmi 9 rfl rfl hS ?_))))
       obtain ⟨x3362, N2, hs⟩ := bind_some hs
       obtain ⟨D4, D5, N3, x2⟩ := zN Sl33 Sz89 h0 N2
       refine xq 10 _ rfl (N3 _ _ _ _ _ _ _ _ _ rfl rfl) hS ?_
       obtain ⟨x3, _⟩ := wF x2
       refine xq 11 (.pointer (some ⟨D4, D5 + 0, none⟩)) rfl (zk rfl yM) hS (x_l 12 (iv x3362.1) rfl (by kernel_rfl)  (fun w' hw' => zo rfl ((zz Ag3 Sz3 x3) w' hw')) hS (xq 13 _ rfl (YJ rfl rfl) hS (zP (i := 6) (by kernel_rfl) ?_)))
       obtain ⟨y3366, N4, hs⟩ := bind_some hs
       obtain ⟨x4, x5, x6, N5, N6, N7, c3, N8, x7⟩ := YI (M := d3) (w := D1) (r := ri) Rw43 N4 (fun _ _ => ⟨rfl, rfl⟩)
       refine zS (w' := N5) (b := false) (.slice x4 x5 x6) rfl  (yL rfl rfl N7) rfl (fun _ => hS.ext c3) ?_
       obtain ⟨h0, a0, j4, j5, x0, x1, x2, x3⟩ := xt8 c3 h0 a0 j4 j5 x0 x1 x2 x3
       have hC := hC.ext c3
       have hO := hO.new c3 N8 (zw x7) x7.fpl
       have hS := hS.ext c3
       refine xq 14 (.slice x4 x5 x6) rfl (zE rfl) hS (xq 15 (.bool (decide (0 < x3362.1))) rfl (zE rfl) hS (Zc (by kernel_rfl) ?_))
       clear hS
       obtain ⟨o3595, N9, hs⟩ := bind_some hs
       refine wp_block (Zt (id := 10) (I := fun s3591 a b3 => ∃ (σ : Nat → Value) (f0 : Nat → Prop) (f1 : Option Addr) (f2 : Nat) (f3 : Nat) (d4 : Option Addr) (d5 : Nat) (d6 : Nat) (j7 : List Nat) (d7 : Option Addr) (d8 : Nat) (d9 : Nat) (o2 : List Nat), a = fr 172 (ovl σ [(1, (iv k)), (3, (pq a1 0)), (8, (.slice f1 f2 f3)), (9, (.slice d4 d5 d6)), (10, (iv r9)), (17, (iv s2566.2.2)), (18, (iv k3334)), (19, (.slice d7 d8 d9)), (20, (.bool s3591.2.2.2))]) ∧ Chg [] w b3 ∧ Own (Nw w []) f0 b3 (j7 ++ (o2 ++ (([a1]) ++ []))) ∧ Keeps w M f0 ∧ (RT.rs (RT.pr ri rl)).val f0 b3 (.slice pa0 pn0 pc0) a_.2 ([]) ∧ BoxV b3 a1 35 [(iv a_.1), (.slice pa0 pn0 pc0)] ∧ (RT.rs rl).val f0 b3 (.slice f1 f2 f3) s3591.1 ([]) ∧ (RT.os 43 rl).val f0 b3 (.slice d4 d5 d6) s3591.2.1 j7 ∧ (RT.os 3 ri).val f0 b3 (.slice d7 d8 d9) s3591.2.2.1 o2) (J := fun s3591 a b3 => ∃ (σ : Nat → Value) (g8 : Nat → Prop) (r2 : Option Addr) (r3 : Nat) (r4 : Nat) (r5 : Option Addr) (r6 : Nat) (r7 : Nat) (r8 : List Nat) (D6 : Option Addr) (D7 : Nat) (D8 : Nat) (x8 : List Nat), a = fr 172 (ovl σ [(1, (iv k)), (3, (pq a1 0)), (8, (.slice r2 r3 r4)), (9, (.slice r5 r6 r7)), (10, (iv r9)), (17, (iv s2566.2.2)), (18, (iv k3334))]) ∧ Chg [] w b3 ∧ Own (Nw w []) g8 b3 (r8 ++ (x8 ++ (([a1]) ++ []))) ∧ Keeps w M g8 ∧ (RT.rs (RT.pr ri rl)).val g8 b3 (.slice pa0 pn0 pc0) a_.2 ([]) ∧ BoxV b3 a1 35 [(iv a_.1), (.slice pa0 pn0 pc0)] ∧ (RT.rs rl).val g8 b3 (.slice r2 r3 r4) s3591.1 ([]) ∧ (RT.os 43 rl).val g8 b3 (.slice r5 r6 r7) s3591.2.1 r8 ∧ (RT.os 3 ri).val g8 b3 (.slice D6 D7 D8) s3591.2.2.1 x8) (K := (yI M w)) ?_ FU (s3332.1, s3332.2, y3366, (decide (0 < x3362.1))) o3595 _ _ ?_ N9 ?_)
       ·rintro s3591 o3595 a b3 ⟨σ, f0, f1, f2, f3, d4, d5, d6, j7, d7, d8, d9, o2, rfl, hC, hO, hK, h0, a0, a5, a4, e0⟩ hs
        refine zd (zd (yO (I := fun a D9 => ∃ (σ : Nat → Value), a = fr 172 (ovl σ [(1, (iv k)), (3, (pq a1 0)), (8, (.slice f1 f2 f3)), (9, (.slice d4 d5 d6)), (10, (iv r9)), (17, (iv s2566.2.2)), (18, (iv k3334)), (19, (.slice d7 d8 d9)), (20, (.bool s3591.2.2.2)), (134, (.bool (s3591.2.2.2 && (decide ((s3591.2.1.length : Int) ≤ r9)))))]) ∧ Chg [] b3 D9) ?_ ?_))
        ·have hMid := Chg.refl [] b3
         refine ze (mb rfl (mb rfl ?_))
         rcases Bool.eq_false_or_eq_true (s3591.2.2.2) with c0 | c0
         ·skip
          refine py 129 (.slice d4 d5 d6) (cb c0) (zt rfl) (py 129 _ (cb c0) (zn Sl25 (ZV a4) rfl) (py 129 (iv r9) (cb c0) (zt rfl) (py 129 _ (cb c0) (XF rfl rfl) (za (.bool (s3591.2.2.2 && (decide ((s3591.2.1.length : Int) ≤ r9)))) (ZT (cb c0) (cb (by rw [c0]; rfl))) (zb ?_)))))
          exact ⟨_, fr_m 172 rfl, hMid⟩
         refine pn 129 (cb c0) (pn 129 (cb c0) (pn 129 (cb c0) (pn 129 (cb c0) (za (.bool (s3591.2.2.2 && (decide ((s3591.2.1.length : Int) ≤ r9)))) (ZF (cb c0) (cb (by rw [c0]; rfl))) (zb ?_)))))
         exact ⟨_, fr_m 172 rfl, hMid⟩
        rintro b8 D9 ⟨σ, rfl, j8⟩
        obtain ⟨h0, a0, a5, a4, e0, hC, hO⟩ := xt7 j8 h0 a0 a5 a4 e0 hC hO
        rcases zf hs with ⟨x9, hs⟩ | ⟨x9, hs⟩
        ·refine zg (cb x9) (wp_skip (wp_block (zd (c_sr (ms rfl (mi rfl ?_))))))
         have hO := hO.fr1
         obtain ⟨r3617, O0, hs⟩ := bind_some hs
         refine zy Bd72 rfl (WI (M := (Less f0 o2)) s3591.2.2.1 s2566.2.2 (((Frz.os Frz.int)).val e0 Less.sub Less.not) hO.less.fut O0) ?_
         rintro _ E0 ⟨rfl, j9⟩
         obtain ⟨h0, a0, a5, a4, e0, hC, hO⟩ := xt7 j9 h0 a0 a5 a4 e0 hC hO
         refine zb ?_
         obtain ⟨s3674, O1, hs⟩ := bind_some hs
         refine yO (I := fun a g9 => ∃ (σ : Nat → Value) (f4 : Nat → Prop) (s0 : Option Addr) (s1 : Nat) (s2 : Nat) (s3 : Option Addr) (s4 : Nat) (s5 : Nat) (o3 : List Nat), a = fr 172 (ovl σ [(1, (iv k)), (3, (pq a1 0)), (8, (.slice s0 s1 s2)), (9, (.slice s3 s4 s5)), (10, (iv r9)), (17, (iv s2566.2.2)), (18, (iv k3334)), (19, (.slice d7 d8 d9)), (20, (.bool s3591.2.2.2))]) ∧ Chg [] w g9 ∧ Own (Nw w []) f4 g9 (o3 ++ (([a1]) ++ [])) ∧ Keeps w M f4 ∧ (RT.rs (RT.pr ri rl)).val f4 g9 (.slice pa0 pn0 pc0) a_.2 ([]) ∧ BoxV g9 a1 35 [(iv a_.1), (.slice pa0 pn0 pc0)] ∧ rl.val f4 g9 (.slice d7 d8 d9) s3674.2.2 ([]) ∧ (RT.rs rl).val f4 g9 (.slice s0 s1 s2) s3674.1 ([]) ∧ (RT.os 43 rl).val f4 g9 (.slice s3 s4 s5) s3674.2.1 o3) ?_ ?_
         ·replace hs := O1
          rcases zf hs with ⟨y0, hs⟩ | ⟨y0, hs⟩
          ·refine zg (cb y0) (zd (Ze [] Mx rfl ?_))
           have h2 := Chg.drew E0
           generalize World.drew E0 = f5 at h2 ⊢
           obtain ⟨h0, a0, a5, a4, e0, hC, hO⟩ := xt7 h2 h0 a0 a5 a4 e0 hC hO
           have hS := Chg.refl [] f5
           refine xl 0 rfl (ldxw rfl Ag35 a0 Sz35) hS (xmi 1 rfl rfl hS (xms 2 rfl rfl hS (xms 3 rfl rfl hS (xmi 5 rfl rfl hS (zP (i := 4) (by kernel_rfl) ?_)))))
           obtain ⟨c1, R2, y1, O2, hO, a9⟩ := xx (Frz.os Frz.int) e0 hO
           have h0 := h0.sub y1
           have a5 := a5.sub y1
           have a4 := a4.sub y1
           have hK := hK.trans O2
           obtain ⟨r3695, O3, hs⟩ := bind_some hs
           refine zZ (b := false) rfl  Bd73 rfl (wC (M := c1) s3591.2.1 s3591.2.2.1 a4 a9 hO.fut O3) rfl (by rintro _ _ _ ⟨O4, O5, O6, rfl, e1, n2⟩; exact hS.ext e1) ?_
           rintro _ h3 ⟨O4, O5, O6, rfl, e1, n2⟩
           have hK := hK.trans (show Keeps w c1 (Past c1 f5 h3) from Keeps.past hC.size)
           obtain ⟨h0, a0, a5, a4, a9, hC⟩ := xt6 e1 h0 a0 a5 a4 a9 hC
           have hO := hO.past e1
           have h0 := h0.sub (M' := (Past c1 f5 h3)) (fun g hg => .inl hg.1)
           have a5 := a5.sub (M' := (Past c1 f5 h3)) (fun g hg => .inl hg.1)
           have a4 := a4.sub (M' := (Past c1 f5 h3)) (fun g hg => .inl hg.1)
           have a9 := a9.sub (M' := (Past c1 f5 h3)) (fun g hg => .inl hg.1)
           have hS := hS.ext e1
           refine zP (i := 6) (by kernel_rfl) ?_
           obtain ⟨r3698, O7, hs⟩ := bind_some hs
           refine zZ (b := false) rfl  Bd70 rfl (xh (M := (Past c1 f5 h3)) (a_.1, a_.2) k3334 r3695 k h0 n2 hO.fut O7) rfl (by rintro _ _ _ ⟨k0, k1, k2, y2, rfl, c6, o4, E1⟩; exact hS.ext c6) ?_
           rintro _ R3 ⟨k0, k1, k2, y2, rfl, c6, o4, E1⟩
           obtain ⟨h0, a0, a5, a4, a9, n2, hC⟩ := xt7 c6 h0 a0 a5 a4 a9 n2 hC
           have hO := Own.join0 hO c6 E1
           have hO := hO.perm (R := y2 ++ (j7 ++ (([a1]) ++ ([])))) (by simp)
           have hS := hS.ext c6
           refine xq 7 (.slice k0 k1 k2) rfl (zE rfl) hS (Zc (by kernel_rfl) ?_)
           clear hS
           refine c_sr (ms rfl (ms rfl ?_))
           obtain ⟨r3701, O8, hs⟩ := bind_some hs
           refine zy Bd46 rfl (YK (M := (Less (Past c1 f5 h3) y2)) s3591.1 r3698 (a5.sub Less.sub) (((Frz.os Frz.int)).val o4 Less.sub Less.not) hO.less.fut O8) ?_
           rintro _ f6 ⟨rfl, f7⟩
           obtain ⟨h0, a0, a5, a4, a9, n2, o4, hC⟩ := xt8 f7 h0 a0 a5 a4 a9 n2 o4 hC
           have hO := hO.ext f7
           refine za (.tuple #[(iv r3701.1), (.bool r3701.2)]) (zt rfl) (za (iv r3701.1) (zO rfl (by kernel_rfl)) (za (.bool r3701.2) (zO rfl (by kernel_rfl)) (ai rfl (ab rfl (zb (c_sr (mb rfl (za _ (ZQ rfl) (zb ?_)))))))))
           rcases zf hs with ⟨y3, hs⟩ | ⟨y3, hs⟩
           ·refine zg (cb y3) (c_sr (ms rfl (ms rfl ?_)))
            obtain ⟨b7, R4, s6, O9, hO, e2⟩ := xx (Frz.os Frz.int) o4 hO
            have h0 := h0.sub s6
            have a5 := a5.sub s6
            have a4 := a4.sub s6
            have a9 := a9.sub s6
            have hK := hK.trans O9
            obtain ⟨r3705, P0, hs⟩ := bind_some hs
            refine zy Bd71 rfl (Wv (M := b7) s3591.1 r3698 a5 e2 hO.fut P0) ?_
            rintro _ e3 ⟨E2, E3, E4, rfl, h4, o5⟩
            have hK := hK.trans (show Keeps w b7 (Past b7 f6 e3) from Keeps.past hC.size)
            obtain ⟨h0, a0, a5, a4, a9, e2, hC⟩ := xt7 h4 h0 a0 a5 a4 a9 e2 hC
            have hO := hO.past h4
            have h0 := h0.sub (M' := (Past b7 f6 e3)) (fun g hg => .inl hg.1)
            have a5 := a5.sub (M' := (Past b7 f6 e3)) (fun g hg => .inl hg.1)
            have a4 := a4.sub (M' := (Past b7 f6 e3)) (fun g hg => .inl hg.1)
            have a9 := a9.sub (M' := (Past b7 f6 e3)) (fun g hg => .inl hg.1)
            have e2 := e2.sub (M' := (Past b7 f6 e3)) (fun g hg => .inl hg.1)
            refine ax rfl (zb (ze (ms rfl (ms rfl ?_))))
            obtain ⟨E5, y4, P1, E6, h5, E7⟩ := zi e3 [(.slice k0 k1 k2)] 43
            refine za (w' := E5) (.slice (some ⟨y4, 0, none⟩) 1 1) (zG rfl (by rw [P1, E6]; kernel_rfl)) ?_
            obtain ⟨h0, a0, a4, a9, e2, o5, hC⟩ := xt7 h5 h0 a0 a4 a9 e2 o5 hC
            have hO := hO.new1 h5 E6 E7.lt
            have y5 := zT (r := rl) (M := (Past b7 f6 e3)) (css := [[(.slice k0 k1 k2)]]) (fps := [([] : List Nat)]) (xs := ([r3698] : List (List Int))) E7 ⟨(yq e2), trivial⟩ (Nat.le_of_ble_eq_true rfl) (List.nodup_cons.2 ⟨(fun h => nomatch h), List.nodup_nil⟩)
            have y5 : (RT.os 43 rl).val (Past b7 f6 e3) E5 (.slice (some ⟨y4, 0, none⟩) 1 1) [r3698] [y4] := y5
            obtain ⟨y3710, P2, hs⟩ := bind_some hs
            have hO := hO.fr1
            obtain ⟨y6, y7, y8, P3, P4, P5, k3, P6, y9⟩ := Yc Rw25 P2 a4 y5 hO.inM (fun g hg hq => hO.apart g hq (zm hg))
            have n3 := zA a4
            refine za (w' := P3) (.slice y6 y7 y8) (zU rfl rfl (P5 _)) ?_
            have hO := hO.fr1.fr1
            have h0 := h0.mt k3 hO n3
            have a0 := a0.ap k3 hO n3 (zl (zm (List.mem_singleton.2 rfl)))
            have a9 := a9.mt k3 hO n3
            have e2 := e2.mt k3 hO n3
            have o5 := o5.mt k3 hO n3
            have hC := hC.st k3 hO n3
            have hO := hO.eat k3 P6 (zw y9) y9.fpl
            refine ax rfl (zb ?_)
            cases hs
            have hO := hO.fr1.fr1
            exact ⟨_, (Past b7 f6 e3), E2, E3, E4, y6, y7, y8, P4, fr_m 172 rfl, hC, hO, hK, h0, a0, a9, o5, y9⟩
           refine zh (cb y3) (wp_skip ?_)
           cases hs
           have hO := hO.drop.fr1.fr1
           exact ⟨_, (Past c1 f5 h3), f1, f2, f3, d4, d5, d6, j7, fr_m 172 rfl, hC, hO, hK, h0, a0, a9, a5, a4⟩
          refine zh (cb y0) (wp_skip ?_)
          cases hs
          obtain ⟨s7, R5, z0, P7, hO, P8⟩ := xx (Frz.os Frz.int) e0 hO
          have h0 := h0.sub z0
          have a5 := a5.sub z0
          have a4 := a4.sub z0
          have hK := hK.trans P7
          have hO := hO.fr1.fr1
          exact ⟨_, s7, f1, f2, f3, d4, d5, d6, j7, fr_m 172 rfl, hC, hO, hK, h0, a0, P8, a5, a4⟩
         rintro b8 g9 ⟨σ, f4, s0, s1, s2, s3, s4, s5, o3, rfl, hC, hO, hK, h0, a0, z1, z2, z3⟩
         refine ze (ms rfl (mi rfl (za _ (yad rfl rfl) ?_)))
         obtain ⟨r3714, P9, hs⟩ := bind_some hs
         refine zy Bd74 rfl (Xm (M := f4) s3674.2.2 (w64 (s2566.2.2 + 1)) z1 hO.fut P9) ?_
         rintro _ R6 ⟨s8, s9, t0, E8, rfl, k4, Q0, Q1⟩
         obtain ⟨h0, a0, z1, z2, z3, hC⟩ := xt6 k4 h0 a0 z1 z2 z3 hC
         have hO := Own.join0 hO k4 Q1
         have hO := hO.perm (R := E8 ++ (o3 ++ (([a1]) ++ ([])))) (by simp)
         refine za (.tuple #[(.slice s8 s9 t0), (.bool r3714.2)]) (zt rfl) (za (.slice s8 s9 t0) (zO rfl (by kernel_rfl)) (za (.bool r3714.2) (zO rfl (by kernel_rfl)) (ax rfl (ab rfl (zb ?_)))))
         cases hs
         have hO := hO.fr2.fr1.fr2
         exact ⟨_, f4, s0, s1, s2, s3, s4, s5, o3, s8, s9, t0, E8, fr_m 172 rfl, hC, hO, hK, h0, a0, z2, z3, Q0⟩
        refine zh (cb x9) (wp_exit ?_)
        cases hs
        have hO := hO.fr2.fr2.fr2
        exact ⟨rfl, _, f0, f1, f2, f3, d4, d5, d6, j7, d7, d8, d9, o2, fr_m 172 rfl, hC, hO, hK, h0, a0, a5, a4, e0⟩
       ·skip
        have hO := hO.fr2.fr1.fr2
        exact ⟨_, d3, m5, m6, m7, m8, m9, n0, n1, x4, x5, x6, N6, fr_m 172 rfl, hC, hO, hK, h0, a0, j4, j5, x7⟩
       cases o3595 with
       | nx _ => exact True.intro
       | rt r_ =>
        have hs := zp hs
        intro b8 k5 hK
        cases hs
        exact hK
       | br s3591 =>
        have hs := zq hs
        rintro b8 b3 ⟨σ, g8, r2, r3, r4, r5, r6, r7, r8, D6, D7, D8, x8, rfl, hC, hO, hK, h0, a0, Q2, Q3, R7⟩
        refine ze (mi rfl (za _ (yad rfl rfl) (ai rfl (zb ?_))))
        cases hs
        have hO := hO.fr1.drop.fr1.fr1
        exact ⟨_, g8, r2, r3, r4, r5, r6, r7, r8, zD 172 ⟨rfl, rfl, rfl, rfl, rfl, rfl, congrArg (Value.int .i64) hw, trivial⟩, hC, hO, hK, h0, a0, Q2, Q3⟩
      ·skip
       have hO := hO.fr1.fr1
       exact ⟨_, g4, l9, m0, m1, g5, g6, g7, o1, fr_m 172 rfl, hC, hO, hK, h0, a0, q4, m3⟩
      cases o3336 with
      | nx _ => exact True.intro
      | rt r_ =>
       have hs := zp hs
       intro b8 k5 hK
       cases hs
       exact hK
      | br s3332 =>
       have hs := zq hs
       rintro b8 b4 ⟨σ, j3, q5, q6, q7, q8, q9, r0, r1, rfl, hC, hO, hK, h0, a0, Q4, Q5⟩
       refine ze (mi rfl (za _ (yad rfl rfl) (ai rfl (zb ?_))))
       cases hs
       have hO := hO.fr1.fr1
       exact ⟨_, j3, q5, q6, q7, q8, q9, r0, r1, fr_m 172 rfl, hC, hO, hK, h0, a0, Q4, Q5⟩
     refine zh (cb w9) (wp_exit ?_)
     cases hs
     have hO := hO.fr1.fr1
     exact ⟨rfl, _, g4, l9, m0, m1, g5, g6, g7, o1, fr_m 172 rfl, hC, hO, hK, h0, a0, q4, m3⟩
    ·skip
     have hO := hO.fr1.fr1
     exact ⟨_, g3, p6, p7, p8, p9, q0, q1, q2, fr_m 172 rfl, hC, hO, hK, h0, a0, M6, M7⟩
    cases o2570 with
    | nx _ => exact True.intro
    | rt r_ =>
     have hs := zp hs
     intro b8 k5 hK
     cases hs
     exact hK
    | br s2566 =>
     have hs := zq hs
     rintro b8 b6 ⟨σ, m2, j0, j1, j2, C7, C8, C9, w8, rfl, hC, hO, hK, h0, a0, E9, R8⟩
     refine c_sr (ms rfl (ms rfl (za _ (zn Sl25 (zu E9) rfl) (mi rfl (za _ (XF rfl rfl) (ax rfl (ab rfl (zb (wp_ret ?_)))))))))
     cases hs
     exact ⟨_, j0, j1, j2, fr_m 172 rfl, hC, (Keeps.out hK E9)⟩

def vC (M : Nat → Prop) (w0 : World) (r : Bool) (a : Act) (w : World) : Prop :=
  ∃ (σ : Nat → Value) , a = fr 18 (ovl σ [(4, (.bool r))]) ∧ Chg [] w0 w
def ZL (s_ : List Int) (t : List Int) : Option (Bool) :=
  (bif ((s_.length : Int) != (t.length : Int)) then some (decide ((s_.length : Int) < (t.length : Int))) else (yA s_ t).bind fun r5 =>
  some r5)
set_option maxHeartbeats 4000000 in
theorem XX {M : Nat → Prop} {w : World} {pa0 : Option Addr} {pn0 pc0 : Nat} {pa1 : Option Addr} {pn1 pc1 : Nat} (s_ : List Int) (t : List Int) (h0 : rl.val M w (.slice pa0 pn0 pc0) s_ ([])) (h1 : rl.val M w (.slice pa1 pn1 pc1) t ([])) (hM : ∀ g, w.heap.size ≤ g → M g) {r : Bool} (hs : ZL s_ t = some r) :
    Gives Try.prog 95 [(.slice pa0 pn0 pc0), (.slice pa1 pn1 pc1)] w (fun v w' => v = (.bool r) ∧ Chg [] w w') := by
 refine zr Try.func95 rfl Try.ntmps95 (Nat.le_of_ble_eq_true rfl) ?_
 have hO := Own.start (N := Nw w []) hM Nw.fut
 have hC := Chg.refl [] w
 unfold ZL at hs
 refine wp_k (K := (vC M w r)) (by rintro _ _ ⟨σ, rfl, hrest⟩; exact Zh Try.results95 (zB rfl) ⟨rfl, hrest⟩) (c_sr (ab rfl (zb (zd (c_sr (ms rfl (za _ (zn Sl43 (zu h0) rfl) (ms rfl (za _ (zn Sl43 (zu h1) rfl) (za (.bool ((s_.length : Int) != (t.length : Int))) (xk rfl rfl) (zb ?_)))))))))))
 rcases zf hs with ⟨a1, hs⟩ | ⟨a1, hs⟩
 ·refine zg (cb a1) (c_sr (ms rfl (za _ (zn Sl43 (zu h0) rfl) (ms rfl (za _ (zn Sl43 (zu h1) rfl) (za _ (zx rfl rfl) (ab rfl (zb (wp_ret ?_)))))))))
  cases hs
  exact ⟨_, fr_m 18 rfl, hC⟩
 refine zh (cb a1) (wp_skip (c_sr (ms rfl (ms rfl ?_))))
 obtain ⟨r5, a2, hs⟩ := bind_some hs
 refine zy Bd85 rfl (wI (M := M) s_ t h0 h1 hO.fut a2) ?_
 rintro _ a4 ⟨rfl, a0⟩
 obtain ⟨h0, h1, hC, hO⟩ := xt4 a0 h0 h1 hC hO
 refine ab rfl (zb (wp_ret ?_))
 cases hs
 exact ⟨_, fr_m 18 rfl, hC⟩

theorem Bd95 : zC Try.prog 95 := zI Try.func95 (by kernel_rfl) rfl

def XR (M : Nat → Prop) (w0 : World) (qa0 : Option Addr) (qn0 qc0 : Nat) (qf0 : List Nat) (qa1 : Option Addr) (qn1 qc1 : Nat) (qf1 : List Nat) (r : (List (List Int))) (a : Act) (w : World) : Prop :=
  ∃ (σ : Nat → Value) (rfi0 : List Nat), a = fr 34 (ovl σ []) ∧ Chg (qf0 ++ (qf1 ++ ([]))) w0 w ∧ (RT.os 43 (RT.os 3 (RT.int .i64))).val M w (.slice qa0 qn0 qc0) r rfi0 ∧ Own (Nw w0 (qf0 ++ (qf1 ++ ([])))) (fun _ => True) w (rfi0 ++ ([]))
def zL (out : List (List Int)) (tuples : List (List Int)) (tuple : List Int) (t : List Int) : Option ((List (List Int))) :=
  (zY tuples tuple).bind fun r6 =>
  ((idx out r6.1).bind fun x10 =>
  (bif ((x10.length : Int) == 0) then some true else (idx out r6.1).bind fun x15 =>
  (ZL t x15).bind fun r20 =>
  some r20)).bind fun s7 =>
  (bif s7 then (idx out r6.1).bind fun x22 =>
  some (List.set out (Int.toNat r6.1) t) else some out)
set_option maxHeartbeats 4000000 in
theorem xi {M : Nat → Prop} {w : World} {pa0 : Option Addr} {pn0 pc0 : Nat} {pf0 : List Nat} {pa1 : Option Addr} {pn1 pc1 : Nat} {pa2 : Option Addr} {pn2 pc2 : Nat} {pa3 : Option Addr} {pn3 pc3 : Nat} {pf3 : List Nat} (out : List (List Int)) (tuples : List (List Int)) (tuple : List Int) (t : List Int) (h0 : (RT.os 43 (RT.os 3 ri)).val M w (.slice pa0 pn0 pc0) out pf0) (h1 : (RT.rs rl).val M w (.slice pa1 pn1 pc1) tuples ([])) (h2 : rl.val M w (.slice pa2 pn2 pc2) tuple ([])) (h3 : (RT.os 3 ri).val M w (.slice pa3 pn3 pc3) t pf3) (hI : Own (Nw w (pf0 ++ (pf3 ++ ([])))) M w (pf0 ++ (pf3 ++ ([])))) (hM : ∀ g, w.heap.size ≤ g → M g) {r : (List (List Int))} (hs : zL out tuples tuple t = some r) :
    Gives Try.prog 94 [(.slice pa0 pn0 pc0), (.slice pa1 pn1 pc1), (.slice pa2 pn2 pc2), (.slice pa3 pn3 pc3)] w (fun v w' => ∃ (rfi0 : List Nat), v = (.tuple #[]) ∧ Chg (pf0 ++ (pf3 ++ ([]))) w w' ∧ (RT.os 43 (RT.os 3 ri)).val M w' (.slice pa0 pn0 pc0) r rfi0 ∧ Own (Nw w (pf0 ++ (pf3 ++ ([])))) (fun _ => True) w' (rfi0 ++ ([]))) := by
 refine zr Try.func94 rfl Try.ntmps94 (Nat.le_of_ble_eq_true rfl) ?_
 have hO := hI
 have hC := Chg.refl (pf0 ++ (pf3 ++ ([]))) w
 unfold zL at hs
 refine wp_mono (Q := XM (XR M w pa0 pn0 pc0 pf0 pa3 pn3 pc3 pf3 r)) ?_ (fun e a e6 h => ?_)
 rotate_left
 ·cases e
  case ret =>
   obtain ⟨σ, rfi0, rfl, hrest⟩ := h
   exact Wp Try.results94  ⟨rfi0, rfl, hrest⟩
  case normal =>
   obtain ⟨σ, rfi0, rfl, hrest⟩ := h
   exact WM Try.results94  ⟨rfi0, rfl, hrest⟩
  all_goals exact (h : False).elim
 refine c_sr (ms rfl (ms rfl ?_))
 obtain ⟨r6, b7, hs⟩ := bind_some hs
 refine zy Bd46 rfl (YK (M := M) tuples tuple h1 h2 hO.fut b7) ?_
 rintro _ b2 ⟨rfl, a2⟩
 obtain ⟨h0, h1, h2, h3, hC, hO⟩ := xt6 a2 h0 h1 h2 h3 hC hO
 refine za (.tuple #[(iv r6.1), (.bool r6.2)]) (zt rfl) (za (iv r6.1) (zO rfl (by kernel_rfl)) (za (.bool r6.2) (zO rfl (by kernel_rfl)) (ai rfl (ab rfl (zb (zd ?_))))))
 obtain ⟨s7, b8, hs⟩ := bind_some hs
 refine yO (I := fun a b3 => ∃ (σ : Nat → Value), a = fr 34 (ovl σ [(0, (.slice pa0 pn0 pc0)), (3, (.slice pa3 pn3 pc3)), (8, (iv r6.1)), (29, (.bool s7))]) ∧ Chg [] b2 b3) ?_ ?_
 ·replace hs := b8
  have hMid := Chg.refl [] b2
  refine ze (ms rfl (mi rfl ?_))
  obtain ⟨x10, b9, hs⟩ := bind_some hs
  obtain ⟨c0, e7, e8, e9, c1, a6, c2⟩ := zR Sl25 Sz43 h0 b9
  have a7 := Zv (Frz.os Frz.int) a6 c2
  refine za _ (c1 _ _ _ _ _ _ _ _ _ rfl rfl) ?_
  obtain ⟨f0, c3, hrow12, a3⟩ := ZG Ag43 Sz43 rfl rfl a7
  obtain ⟨c4, c5, c6, rfl⟩ := yd a3
  refine za (.slice c4 c5 c6) (zo rfl (c3 _ (Chg.refl _ _))) (za _ (zn Sl43 (zu a3) rfl) (za (.bool ((x10.length : Int) == 0)) (xz rfl rfl) (mb rfl ?_)))
  rcases zf hs with ⟨a0, hs⟩ | ⟨a0, hs⟩
  ·skip
   refine pn 22 (cb a0) (pn 22 (cb a0) (pn 22 (cb a0) (pn 22 (cb a0) (pn 22 (cb a0) (pn 22 (cb a0) (za _ (ptb (cb a0) rfl) (zb ?_)))))))
   cases hs
   exact ⟨_, fr_m 34 rfl, hMid⟩
  refine py 22 (.slice pa3 pn3 pc3) (cb a0) (zt rfl) (py 22 (.slice pa0 pn0 pc0) (cb a0) (zt rfl) (py 22 (iv r6.1) (cb a0) (zt rfl) ?_))
  obtain ⟨x15, c7, hs⟩ := bind_some hs
  obtain ⟨c8, f1, f2, f3, c9, a8, d0⟩ := zR Sl25 Sz43 h0 c7
  have a9 := Zv (Frz.os Frz.int) a8 d0
  refine py 22 _ (cb a0) (c9 _ _ _ _ _ _ _ _ _ rfl rfl) ?_
  obtain ⟨f4, d1, hrow17, a4⟩ := ZG Ag43 Sz43 rfl rfl a9
  obtain ⟨d2, d3, d4, rfl⟩ := yd a4
  refine py 22 (.slice d2 d3 d4) (cb a0) (zo rfl (d1 _ (Chg.refl _ _))) ?_
  have hO := hO.fr1
  obtain ⟨r20, d5, hs⟩ := bind_some hs
  refine xf (tg := 22) (by kernel_rfl) (cb a0) Bd95 rfl (XX (M := (Less (Less M pf3) pf0)) t x15 ((((Frz.os Frz.int)).val h3 Less.sub Less.not).sub Less.sub) (a4.sub (M' := (Less (Less M pf3) pf0)) (fun g h => .inl (by simp only [Less] at h ⊢; simp [h]))) (hO.less).less.fut d5) ?_
  rintro _ f5 ⟨rfl, a1⟩
  obtain ⟨h0, h3, a3, hrow12, a4, hrow17, hMid, a6⟩ := xt8 a1 h0 h3 a3 hrow12 a4 hrow17 hMid a6
  obtain ⟨a7, a8, a9, hC, hO⟩ := xt5 a1 a7 a8 a9 hC hO
  refine za _ (pfb (cb a0) rfl) (zb ?_)
  cases hs
  exact ⟨_, fr_m 34 rfl, hMid⟩
 rintro f6 b3 ⟨σ, rfl, a5⟩
 obtain ⟨h0, h3, hC, hO⟩ := xt4 a5 h0 h3 hC hO
 rcases zf hs with ⟨b0, hs⟩ | ⟨b0, hs⟩
 ·refine zg (cb b0) (ze (ms rfl (mi rfl (ms rfl ?_))))
  obtain ⟨x22, d6, hs⟩ := bind_some hs
  obtain ⟨b4, f7, b5, d7, d8, d9, e0⟩ := zR Sl25 Sz43 h0 d6
  have f8 := Zv (Frz.os Frz.int) d9 e0
  refine za _ (d8 _ _ _ _ _ _ _ _ _ rfl rfl) ?_
  have hO := hO.fr1.fr1
  obtain ⟨e1, e2, e3, b6, e4, b1⟩ := yn (P := Try.prog) (c' := [(.slice pa3 pn3 pc3)]) b5 h0 d7 (fun g hg => hO.inM g (zA h0 g (by simpa using hg))) (Zs h3) (hO.drop.perm (R := pf3 ++ ([])) (by simp)).nd (fun g hg hq => hO.apart g hq (by simp only [List.mem_append, List.not_mem_nil, false_or, or_false] at hg ⊢; simp [hg])) (fun _ h => .inl h)
  have e5 : ∀ q ∈ [b4], q ∈ pf0 := fun q hq => zA h0 q (by rw [b5]; exact hq)
  refine Zk (w' := e1) (zV rfl rfl (e3 _ _ rfl Sz43)) ?_
  have hO := hO.fr1.fr1
  have hC := hC.st b6 hO e5
  have hO := (hO.perm (R := pf0 ++ (pf3 ++ ([]))) (by simp)).eat b6 (fun q hq => (e4 q hq).elim .inl (fun h => .inr (.inl h))) (zw b1) b1.fpl
  refine zb ?_
  cases hs
  exact ⟨_, e2, zD 34 trivial, hC, b1, hO.top⟩
 refine zh (cb b0) (wp_skip ?_)
 cases hs
 have hO := hO.fr1.drop
 exact ⟨_, pf0, zD 34 trivial, hC, h0, hO.top⟩

theorem UP : RowT Try.prog 111 4 1 [(.bool false)] := ⟨Try.underlying111, ⟨_, _, rfl, rfl, rfl, rfl, by decide⟩, rfl, by decide⟩

theorem Bd94 : zC Try.prog 94 := zI Try.func94 (by kernel_rfl) rfl

theorem Sl111 : SlT Try.prog 111 4 := Try.underlying111

theorem Sz4 : SzT Try.prog 4 1 := ⟨_, rfl, rfl⟩

theorem Ag4 : AggT Try.prog 4 false := fun _ => by kernel_rfl

def yl (M : Nat → Prop) (w0 : World) (r : (List (List Int))) (a : Act) (w : World) : Prop :=
  ∃ (σ : Nat → Value) (ra0 : Option Addr) (rn0 rc0 : Nat) (rf0 : List Nat), a = fr 215 (ovl σ [(8, (.slice ra0 rn0 rc0))]) ∧ Chg [] w0 w ∧ (RT.os 43 (RT.os 3 (RT.int .i64))).val M w (.slice ra0 rn0 rc0) r rf0 ∧ Own (Nw w0 []) (fun _ => True) w (rf0 ++ ([]))
def Yw (a_ : Int × (List (Int × (List Int)))) (k : Int) (gens : List (List Int)) (tuples : List (List Int)) : Option ((List (List Int))) :=
  (mks (tuples.length : Int) ([] : List Int)).bind fun y7 =>
  (mks (tuples.length : Int) (false : Bool)).bind fun y10 =>
  (forC (S := (List (List Int))) (R := (List (List Int))) (fun k122 s120 =>
  (idx gens k122).bind fun x128 =>
  (zY tuples x128).bind fun r133 =>
  (idx s120 r133.1).bind fun x134 =>
  (bif ((x134.length : Int) == 0) then (idx s120 r133.1).bind fun x141 =>
  some (.nx (List.set s120 (Int.toNat r133.1) ([k122]))) else some (.nx s120))) 0 (gens.length : Int) y7).bind fun o124 => after o124 (fun r_ => some r_) (fun s120 =>
  (forC (S := (List (List Int))) (R := (List (List Int))) (fun k173 s171 =>
  (idx a_.2 k173).bind fun x179 =>
  (bif (x179.1 == 0) then (zM (a_.1, a_.2) k173 ([]) k).bind fun r186 =>
  (zL s171 tuples r186 ([w64 ((-1) - k173)])).bind fun r191 =>
  some (.nx r191) else some (.nx s171))) 0 (a_.2.length : Int) s120).bind fun o175 => after o175 (fun r_ => some r_) (fun s171 =>
  (iter (S := (List Int) × (List (List Int)) × (List Bool)) (R := (List (List Int))) (fun s3253 =>
  (forC (S := Int) (R := (List (List Int))) (fun k3295 s3293 =>
  ((idx s3253.2.2 k3295).bind fun x3303 =>
  (bif (!x3303) then (idx s3253.2.1 k3295).bind fun x3306 =>
  (bif (decide (0 < (x3306.length : Int))) then (bif (decide (s3293 < 0)) then some true else (idx s3253.2.1 k3295).bind fun x3312 =>
  (idx s3253.2.1 s3293).bind fun x3316 =>
  (ZL x3312 x3316).bind fun r3321 =>
  some r3321) else some false) else some false)).bind fun s3299 =>
  (bif s3299 then some (.nx k3295) else some (.nx s3293))) 0 (s3253.2.1.length : Int) (-1)).bind fun o3297 => after o3297 (fun r_ => some (.rt r_)) (fun s3293 =>
  (bif (decide (s3293 < 0)) then some (.rt s3253.2.1) else (idx s3253.2.2 s3293).bind fun x3324 =>
  (app s3253.1 ([s3293])).bind fun y3330 =>
  (forC (S := (List (List Int))) (R := (List (List Int))) (fun k4304 s4302 =>
  (idx a_.2 k4304).bind fun x4323 =>
  (idx a_.2 k4304).bind fun x4326 =>
  (mks x4323.1 (0 : Int)).bind fun y4330 =>
  (iter (S := (List Int) × Bool × (List (List Int))) (R := (List (List Int))) (fun s4634 =>
  (bif s4634.2.1 then (Zd s4634.1 (w64 ((y3330.length : Int) - 1))).bind fun r4650 =>
  (bif r4650 then (iter (S := (List Int) × (List (List Int)) × Int) (R := (List (List Int))) (fun s4725 =>
  (bif ((decide (s4725.2.2 < (s4634.1.length : Int))) && (decide ((s4725.1.length : Int) ≤ 60))) then (idx s4634.1 s4725.2.2).bind fun x4746 =>
  (idx y3330 x4746).bind fun x4748 =>
  (idx s4634.2.2 x4748).bind fun x4750 =>
  (app s4725.1 x4750).bind fun y4755 =>
  (idx s4634.1 s4725.2.2).bind fun x4757 =>
  (idx y3330 x4757).bind fun x4759 =>
  (idx tuples x4759).bind fun x4761 =>
  (app s4725.2.1 ([x4761])).bind fun y4768 =>
  some (.nx (y4755, y4768, w64 (s4725.2.2 + 1))) else some (.br (s4725.1, s4725.2.1, s4725.2.2)))) FU ([w64 ((-1) - k4304)], [], 0)).bind fun o4729 => after o4729 (fun r_ => some (.rt r_)) (fun s4725 =>
  (bif (decide ((s4725.1.length : Int) ≤ 60)) then (zM (a_.1, a_.2) k4304 s4725.2.1 k).bind fun r4786 =>
  (zL s4634.2.2 tuples r4786 s4725.1).bind fun r4789 =>
  some r4789 else some s4634.2.2).bind fun s4780 =>
  (zK s4634.1 (w64 ((w64 ((y3330.length : Int) - 1)) + 1))).bind fun r4791 =>
  some (.nx (r4791.1, r4791.2, s4780))) else (zK s4634.1 (w64 ((w64 ((y3330.length : Int) - 1)) + 1))).bind fun r4794 =>
  some (.nx (r4794.1, r4794.2, s4634.2.2))) else some (.br (s4634.1, s4634.2.1, s4634.2.2)))) FU (y4330, (decide (0 < x4326.1)), s4302)).bind fun o4638 => after o4638 (fun r_ => some (.rt r_)) (fun s4634 =>
  some (.nx s4634.2.2))) 0 (a_.2.length : Int) s3253.2.1).bind fun o4306 => after o4306 (fun r_ => some (.rt r_)) (fun s4302 =>
  some (.nx (y3330, s4302, List.set s3253.2.2 (Int.toNat s3293) true)))))) FU ([], s171, y10)).bind fun o3257 => after o3257 (fun r_ => some r_) (fun _ =>
  none)))
set_option maxHeartbeats 4000000 in
theorem Va {M : Nat → Prop} {w : World} {pa0 : Option Addr} {pn0 pc0 : Nat} {pa1 : Option Addr} {pn1 pc1 : Nat} {pa2 : Option Addr} {pn2 pc2 : Nat} (a_ : Int × (List (Int × (List Int)))) (k : Int) (gens : List (List Int)) (tuples : List (List Int)) (h0 : (RT.rs (RT.pr ri rl)).val M w (.slice pa0 pn0 pc0) a_.2 ([])) (h1 : (RT.rs rl).val M w (.slice pa1 pn1 pc1) gens ([])) (h2 : (RT.rs rl).val M w (.slice pa2 pn2 pc2) tuples ([])) (hM : ∀ g, w.heap.size ≤ g → M g) {r : (List (List Int))} (hs : Yw a_ k gens tuples = some r) :
    Gives Try.prog 53 [(.agg #[(iv a_.1), (.slice pa0 pn0 pc0)]), (iv k), (.slice pa1 pn1 pc1), (.slice pa2 pn2 pc2)] w (fun v w' => ∃ (ra0 : Option Addr) (rn0 rc0 : Nat) (rf0 : List Nat), v = (.slice ra0 rn0 rc0) ∧ Chg [] w w' ∧ (RT.os 43 (RT.os 3 ri)).val M w' (.slice ra0 rn0 rc0) r rf0 ∧ Own (Nw w []) (fun _ => True) w' (rf0 ++ ([]))) := by
 refine zr Try.func53 rfl Try.ntmps53 (Nat.le_of_ble_eq_true rfl) ?_
 have hO := Own.start (N := Nw w []) hM Nw.fut
 have hC := Chg.refl [] w
 unfold Yw at hs
 refine wp_k (K := (yl M w r)) (by rintro _ _ ⟨σ, ra0, rn0, rc0, rf0, rfl, hrest⟩; exact Zh Try.results53 (zB rfl) ⟨ra0, rn0, rc0, rf0, rfl, hrest⟩) (c_sr ?_)
 obtain ⟨t2, a1, J1, C4, n9, a0⟩ := zi w [(iv a_.1), (.slice pa0 pn0 pc0)] 35
 refine za (w' := t2) (pq a1 0) (ZW rfl (by rw [J1, C4]; kernel_rfl)) ?_
 obtain ⟨h0, h1, h2, hC⟩ := xt4 n9 h0 h1 h2 hC
 have hO := hO.new1 n9 C4 a0.lt
 refine ax rfl (zb (zd ?_))
 obtain ⟨y7, o0, hs⟩ := bind_some hs
 obtain ⟨y10, o1, hs⟩ := bind_some hs
 refine yO (I := fun a f9 => ∃ (σ : Nat → Value) (a4 : Option Addr) (a8 : Option Addr) (a5 : Nat) (a9 : Nat) (q3 : List Nat) (d3 : List Nat) (b2 : Nat) (a6 : Nat) (b0 : Nat), a = fr 215 (ovl σ [(1, (iv k)), (2, (.slice pa1 pn1 pc1)), (3, (.slice pa2 pn2 pc2)), (4, (pq a1 0)), (8, (.slice none 0 0)), (9, (.slice a4 a6 a5)), (10, (.slice a8 b0 a9)), (11, (.slice (some ⟨b2, 0, none⟩) 0 0))]) ∧ Chg [] w f9 ∧ Own (Nw w []) M f9 (([b2]) ++ (d3 ++ (q3 ++ (([a1]) ++ [])))) ∧ (RT.rs (RT.pr ri rl)).val M f9 (.slice pa0 pn0 pc0) a_.2 ([]) ∧ (RT.rs rl).val M f9 (.slice pa1 pn1 pc1) gens ([]) ∧ (RT.rs rl).val M f9 (.slice pa2 pn2 pc2) tuples ([]) ∧ BoxV f9 a1 35 [(iv a_.1), (.slice pa0 pn0 pc0)] ∧ (RT.os 43 (RT.os 3 ri)).val M f9 (.slice a4 a6 a5) y7 q3 ∧ (RT.os 4 RT.bool).val M f9 (.slice a8 b0 a9) y10 d3 ∧ (RT.os 3 ri).val M f9 (.slice (some ⟨b2, 0, none⟩) 0 0) ([]) ([b2])) ?_ ?_
 ·skip
  refine Ze [] Mx rfl ?_
  have l4 := Chg.drew t2
  generalize World.drew t2 = q4 at l4 ⊢
  obtain ⟨h0, h1, h2, a0, hC, hO⟩ := xt6 l4 h0 h1 h2 a0 hC hO
  have hS := Chg.refl [] q4
  refine xms 0 rfl rfl hS (xq 1 _ rfl (zn Sl25 (zu h2) rfl) hS (xms 3 rfl rfl hS (xq 4 _ rfl (zn Sl25 (zu h2) rfl) hS (x_many [2, 5, 6] (by kernel_rfl) (fun h => nomatch h) (all3 ?_ ?_ ?_)))))
  ·skip
   obtain ⟨q5, q6, q7, t3, C5, J2, k1, J3, e7⟩ := YI (M := M) (w := q4) (r := (RT.os 3 ri)) Rw25 o0 (fun _ _ => (Zs xD))
   refine zS (w' := t3) (b := false) (.slice q5 q6 q7) rfl  (yL rfl rfl J2) rfl (fun _ => hS.ext k1) ?_
   obtain ⟨h0, h1, h2, a0, hC⟩ := xt5 k1 h0 h1 h2 a0 hC
   have hO := hO.new k1 J3 (zw e7) e7.fpl
   have hS := hS.ext k1
   refine xq 7 (.slice q5 q6 q7) rfl (zE rfl) hS (wo (i := 5) (j := 6) (by kernel_rfl) ?_ ?_)
   ·skip
    obtain ⟨t4, t5, t6, C6, J4, J5, h8, J6, o2⟩ := YI (M := M) (w := t3) (r := RT.bool) UP o1 (fun _ _ => ⟨rfl, rfl⟩)
    refine zS (w' := C6) (b := false) (.slice t4 t5 t6) rfl  (yL rfl rfl J5) rfl (fun _ => hS.ext h8) ?_
    obtain ⟨h0, h1, h2, a0, e7, hC⟩ := xt6 h8 h0 h1 h2 a0 e7 hC
    have hO := hO.new h8 J6 (zw o2) o2.fpl
    have hS := hS.ext h8
    refine xq 8 (.slice t4 t5 t6) rfl (zE rfl) hS (zP (i := 6) (by kernel_rfl) ?_)
    obtain ⟨C7, o3, J7, C8, g0, C9⟩ := zi C6 [] 3
    refine zS (w' := C7) (b := false) (.slice (some ⟨o3, 0, none⟩) 0 0) rfl  (zG rfl (by rw [J7, C8]; kernel_rfl)) rfl (fun _ => hS.ext g0) ?_
    obtain ⟨h0, h1, h2, a0, e7, o2, hC⟩ := xt7 g0 h0 h1 h2 a0 e7 o2 hC
    have hO := hO.new1 g0 C8 C9.lt
    have t7 := os0 (r := ri) (M := M) C9
    have hS := hS.ext g0
    refine xq 9 (.slice (some ⟨o3, 0, none⟩) 0 0) rfl (zE rfl) hS (Zc (by kernel_rfl) ?_)
    clear hS
    have hO := hO.fr3.fr3.fr3.fr3
    exact ⟨_, q5, t4, q7, t6, C5, J4, o3, q6, t5, fr_m 215 rfl, hC, hO, h0, h1, h2, a0, e7, o2, t7⟩
   ·skip
    obtain ⟨t8, o4, J8, D0, h9, D1⟩ := zi t3 [] 3
    refine zS (w' := t8) (b := false) (.slice (some ⟨o4, 0, none⟩) 0 0) rfl  (zG rfl (by rw [J8, D0]; kernel_rfl)) rfl (fun _ => hS.ext h9) ?_
    obtain ⟨h0, h1, h2, a0, e7, hC⟩ := xt6 h9 h0 h1 h2 a0 e7 hC
    have hO := hO.new1 h9 D0 D1.lt
    have o5 := os0 (r := ri) (M := M) D1
    have hS := hS.ext h9
    refine zP (i := 5) (by kernel_rfl) ?_
    obtain ⟨t9, u0, u1, J9, K0, K1, g1, K2, u2⟩ := YI (M := M) (w := t8) (r := RT.bool) UP o1 (fun _ _ => ⟨rfl, rfl⟩)
    refine zS (w' := J9) (b := false) (.slice t9 u0 u1) rfl  (yL rfl rfl K1) rfl (fun _ => hS.ext g1) ?_
    obtain ⟨h0, h1, h2, a0, e7, o5, hC⟩ := xt7 g1 h0 h1 h2 a0 e7 o5 hC
    have hO := hO.new g1 K2 (zw u2) u2.fpl
    have hS := hS.ext g1
    refine xq 8 (.slice t9 u0 u1) rfl (zE rfl) hS (xq 9 (.slice (some ⟨o4, 0, none⟩) 0 0) rfl (zE rfl) hS (Zc (by kernel_rfl) ?_))
    clear hS
    have hO := hO.fr3.fr3.fr2.fr3
    exact ⟨_, q5, t9, q7, u1, C5, K0, o4, q6, u0, fr_m 215 rfl, hC, hO, h0, h1, h2, a0, e7, u2, o5⟩
  ·skip
   obtain ⟨o6, o7, o8, u3, D2, K3, k2, K4, e8⟩ := YI (M := M) (w := q4) (r := RT.bool) UP o1 (fun _ _ => ⟨rfl, rfl⟩)
   refine zS (w' := u3) (b := false) (.slice o6 o7 o8) rfl  (yL rfl rfl K3) rfl (fun _ => hS.ext k2) ?_
   obtain ⟨h0, h1, h2, a0, hC⟩ := xt5 k2 h0 h1 h2 a0 hC
   have hO := hO.new k2 K4 (zw e8) e8.fpl
   have hS := hS.ext k2
   refine wo (i := 2) (j := 6) (by kernel_rfl) ?_ ?_
   ·skip
    obtain ⟨u4, u5, u6, D3, K5, K6, i0, K7, o9⟩ := YI (M := M) (w := u3) (r := (RT.os 3 ri)) Rw25 o0 (fun _ _ => (Zs xD))
    refine zS (w' := D3) (b := false) (.slice u4 u5 u6) rfl  (yL rfl rfl K6) rfl (fun _ => hS.ext i0) ?_
    obtain ⟨h0, h1, h2, a0, e8, hC⟩ := xt6 i0 h0 h1 h2 a0 e8 hC
    have hO := hO.new i0 K7 (zw o9) o9.fpl
    have hS := hS.ext i0
    refine xq 7 (.slice u4 u5 u6) rfl (zE rfl) hS (xq 8 (.slice o6 o7 o8) rfl (zE rfl) hS (zP (i := 6) (by kernel_rfl) ?_))
    obtain ⟨D4, p0, K8, D5, g2, D6⟩ := zi D3 [] 3
    refine zS (w' := D4) (b := false) (.slice (some ⟨p0, 0, none⟩) 0 0) rfl  (zG rfl (by rw [K8, D5]; kernel_rfl)) rfl (fun _ => hS.ext g2) ?_
    obtain ⟨h0, h1, h2, a0, e8, o9, hC⟩ := xt7 g2 h0 h1 h2 a0 e8 o9 hC
    have hO := hO.new1 g2 D5 D6.lt
    have u7 := os0 (r := ri) (M := M) D6
    have hS := hS.ext g2
    refine xq 9 (.slice (some ⟨p0, 0, none⟩) 0 0) rfl (zE rfl) hS (Zc (by kernel_rfl) ?_)
    clear hS
    have hO := hO.fr3.fr2.fr3.fr3
    exact ⟨_, u4, o6, u6, o8, K5, D2, p0, u5, o7, fr_m 215 rfl, hC, hO, h0, h1, h2, a0, o9, e8, u7⟩
   ·skip
    obtain ⟨u9, p1, K9, D7, i1, D8⟩ := zi u3 [] 3
    refine zS (w' := u9) (b := false) (.slice (some ⟨p1, 0, none⟩) 0 0) rfl  (zG rfl (by rw [K9, D7]; kernel_rfl)) rfl (fun _ => hS.ext i1) ?_
    obtain ⟨h0, h1, h2, a0, e8, hC⟩ := xt6 i1 h0 h1 h2 a0 e8 hC
    have hO := hO.new1 i1 D7 D8.lt
    have p2 := os0 (r := ri) (M := M) D8
    have hS := hS.ext i1
    refine zP (i := 2) (by kernel_rfl) ?_
    obtain ⟨v0, v1, v2, L0, L1, L2, g3, L3, v3⟩ := YI (M := M) (w := u9) (r := (RT.os 3 ri)) Rw25 o0 (fun _ _ => (Zs xD))
    refine zS (w' := L0) (b := false) (.slice v0 v1 v2) rfl  (yL rfl rfl L2) rfl (fun _ => hS.ext g3) ?_
    obtain ⟨h0, h1, h2, a0, e8, p2, hC⟩ := xt7 g3 h0 h1 h2 a0 e8 p2 hC
    have hO := hO.new g3 L3 (zw v3) v3.fpl
    have hS := hS.ext g3
    refine xq 7 (.slice v0 v1 v2) rfl (zE rfl) hS (xq 8 (.slice o6 o7 o8) rfl (zE rfl) hS (xq 9 (.slice (some ⟨p1, 0, none⟩) 0 0) rfl (zE rfl) hS (Zc (by kernel_rfl) ?_)))
    clear hS
    have hO := hO.fr3.fr1.fr3.fr3
    exact ⟨_, v0, o6, v2, o8, L1, D2, p1, v1, o7, fr_m 215 rfl, hC, hO, h0, h1, h2, a0, v3, e8, p2⟩
  ·skip
   obtain ⟨q8, l5, L4, D9, k3, E0⟩ := zi q4 [] 3
   refine zS (w' := q8) (b := false) (.slice (some ⟨l5, 0, none⟩) 0 0) rfl  (zG rfl (by rw [L4, D9]; kernel_rfl)) rfl (fun _ => hS.ext k3) ?_
   obtain ⟨h0, h1, h2, a0, hC⟩ := xt5 k3 h0 h1 h2 a0 hC
   have hO := hO.new1 k3 D9 E0.lt
   have e9 := os0 (r := ri) (M := M) E0
   have hS := hS.ext k3
   refine wo (i := 2) (j := 5) (by kernel_rfl) ?_ ?_
   ·skip
    obtain ⟨v4, v5, v6, E1, L5, L6, i2, L7, p3⟩ := YI (M := M) (w := q8) (r := (RT.os 3 ri)) Rw25 o0 (fun _ _ => (Zs xD))
    refine zS (w' := E1) (b := false) (.slice v4 v5 v6) rfl  (yL rfl rfl L6) rfl (fun _ => hS.ext i2) ?_
    obtain ⟨h0, h1, h2, a0, e9, hC⟩ := xt6 i2 h0 h1 h2 a0 e9 hC
    have hO := hO.new i2 L7 (zw p3) p3.fpl
    have hS := hS.ext i2
    refine xq 7 (.slice v4 v5 v6) rfl (zE rfl) hS (zP (i := 5) (by kernel_rfl) ?_)
    obtain ⟨v7, v8, v9, L8, L9, M0, g4, M1, w1⟩ := YI (M := M) (w := E1) (r := RT.bool) UP o1 (fun _ _ => ⟨rfl, rfl⟩)
    refine zS (w' := L8) (b := false) (.slice v7 v8 v9) rfl  (yL rfl rfl M0) rfl (fun _ => hS.ext g4) ?_
    obtain ⟨h0, h1, h2, a0, e9, p3, hC⟩ := xt7 g4 h0 h1 h2 a0 e9 p3 hC
    have hO := hO.new g4 M1 (zw w1) w1.fpl
    have hS := hS.ext g4
    refine xq 8 (.slice v7 v8 v9) rfl (zE rfl) hS (xq 9 (.slice (some ⟨l5, 0, none⟩) 0 0) rfl (zE rfl) hS (Zc (by kernel_rfl) ?_))
    clear hS
    have hO := hO.fr3.fr2.fr2.fr3
    exact ⟨_, v4, v7, v6, v9, L5, L9, l5, v5, v8, fr_m 215 rfl, hC, hO, h0, h1, h2, a0, p3, w1, e9⟩
   ·skip
    obtain ⟨w2, w3, w4, E2, M2, M3, i3, M4, p4⟩ := YI (M := M) (w := q8) (r := RT.bool) UP o1 (fun _ _ => ⟨rfl, rfl⟩)
    refine zS (w' := E2) (b := false) (.slice w2 w3 w4) rfl  (yL rfl rfl M3) rfl (fun _ => hS.ext i3) ?_
    obtain ⟨h0, h1, h2, a0, e9, hC⟩ := xt6 i3 h0 h1 h2 a0 e9 hC
    have hO := hO.new i3 M4 (zw p4) p4.fpl
    have hS := hS.ext i3
    refine zP (i := 2) (by kernel_rfl) ?_
    obtain ⟨w5, w6, w7, M5, M6, M7, g5, M8, w8⟩ := YI (M := M) (w := E2) (r := (RT.os 3 ri)) Rw25 o0 (fun _ _ => (Zs xD))
    refine zS (w' := M5) (b := false) (.slice w5 w6 w7) rfl  (yL rfl rfl M7) rfl (fun _ => hS.ext g5) ?_
    obtain ⟨h0, h1, h2, a0, e9, p4, hC⟩ := xt7 g5 h0 h1 h2 a0 e9 p4 hC
    have hO := hO.new g5 M8 (zw w8) w8.fpl
    have hS := hS.ext g5
    refine xq 7 (.slice w5 w6 w7) rfl (zE rfl) hS (xq 8 (.slice w2 w3 w4) rfl (zE rfl) hS (xq 9 (.slice (some ⟨l5, 0, none⟩) 0 0) rfl (zE rfl) hS (Zc (by kernel_rfl) ?_)))
    clear hS
    have hO := hO.fr3.fr1.fr2.fr3
    exact ⟨_, w5, w2, w7, w4, M6, M2, l5, w6, w3, fr_m 215 rfl, hC, hO, h0, h1, h2, a0, w8, p4, e9⟩
 rintro e1 f9 ⟨σ, a4, a8, a5, a9, q3, d3, b2, a6, b0, rfl, hC, hO, h0, h1, h2, a0, M9, b3, b4⟩
 refine zd (c_sr (ai rfl (zb ?_)))
 obtain ⟨o124, N0, hs⟩ := bind_some hs
 refine wp_block (zW (id := 0) (gens.length : Int) (I := fun k122 s120 a c1 => ∃ (σ : Nat → Value) (k4 : List Nat), a = fr 215 (ovl σ [(1, (iv k)), (2, (.slice pa1 pn1 pc1)), (3, (.slice pa2 pn2 pc2)), (4, (pq a1 0)), (9, (.slice a4 a6 a5)), (10, (.slice a8 b0 a9)), (11, (.slice (some ⟨b2, 0, none⟩) 0 0)), (12, (iv k122))]) ∧ Chg [] w c1 ∧ Own (Nw w []) M c1 (([b2]) ++ (d3 ++ (k4 ++ (([a1]) ++ [])))) ∧ (RT.rs (RT.pr ri rl)).val M c1 (.slice pa0 pn0 pc0) a_.2 ([]) ∧ (RT.rs rl).val M c1 (.slice pa1 pn1 pc1) gens ([]) ∧ (RT.rs rl).val M c1 (.slice pa2 pn2 pc2) tuples ([]) ∧ BoxV c1 a1 35 [(iv a_.1), (.slice pa0 pn0 pc0)] ∧ (RT.os 43 (RT.os 3 ri)).val M c1 (.slice a4 a6 a5) s120 k4 ∧ (RT.os 4 RT.bool).val M c1 (.slice a8 b0 a9) y10 d3 ∧ (RT.os 3 ri).val M c1 (.slice (some ⟨b2, 0, none⟩) 0 0) ([]) ([b2])) (J := fun s120 a c1 => ∃ (σ : Nat → Value) (q9 : List Nat), a = fr 215 (ovl σ [(1, (iv k)), (3, (.slice pa2 pn2 pc2)), (4, (pq a1 0)), (9, (.slice a4 a6 a5)), (10, (.slice a8 b0 a9)), (11, (.slice (some ⟨b2, 0, none⟩) 0 0))]) ∧ Chg [] w c1 ∧ Own (Nw w []) M c1 (([b2]) ++ (d3 ++ (q9 ++ (([a1]) ++ [])))) ∧ (RT.rs (RT.pr ri rl)).val M c1 (.slice pa0 pn0 pc0) a_.2 ([]) ∧ (RT.rs rl).val M c1 (.slice pa1 pn1 pc1) gens ([]) ∧ (RT.rs rl).val M c1 (.slice pa2 pn2 pc2) tuples ([]) ∧ BoxV c1 a1 35 [(iv a_.1), (.slice pa0 pn0 pc0)] ∧ (RT.os 43 (RT.os 3 ri)).val M c1 (.slice a4 a6 a5) s120 q9 ∧ (RT.os 4 RT.bool).val M c1 (.slice a8 b0 a9) y10 d3 ∧ (RT.os 3 ri).val M c1 (.slice (some ⟨b2, 0, none⟩) 0 0) ([]) ([b2])) (K := (yl M w)) ?_ ?_ 0 y7 o124 _ _ ?_ N0 ?_)
 ·rintro k122 s120 a c1 ⟨σ, k4, rfl, hC, hO, h0, h1, h2, a0, f0, b3, b4⟩ hlt
  refine zd (c_sr (mi rfl (ms rfl (za _ (zn Sl25 (zu h1) rfl) (za _ (zx rfl rfl) (zb (zh (cb (decide_eq_false hlt)) (wp_exit ?_))))))))
  have hO := hO.fr3.fr3.fr3.fr3
  exact ⟨rfl, _, k4, fr_m 215 rfl, hC, hO, h0, h1, h2, a0, f0, b3, b4⟩
 ·rintro k122 s120 o124 a c1 ⟨σ, k4, rfl, hC, hO, h0, h1, h2, a0, f0, b3, b4⟩ hlt hw hs
  refine zd (c_sr (mi rfl (ms rfl (za _ (zn Sl25 (zu h1) rfl) (za _ (zx rfl rfl) (zb (zg (cb (decide_eq_true hlt)) (wp_skip (zd (wp_block (c_sr (ms rfl (ms rfl (mi rfl ?_))))))))))))))
  obtain ⟨x128, N1, hs⟩ := bind_some hs
  obtain ⟨N2, N3, N4, w9⟩ := zN Sl25 Sz43 h1 N1
  refine za _ (N4 _ _ _ _ _ _ _ _ _ rfl rfl) ?_
  obtain ⟨a39, N5, r0⟩ := Zj Ag43 Sz43 (fun _ => rfl) w9
  obtain ⟨N6, N7, N8, rfl⟩ := yd r0
  refine za (.slice N6 N7 N8) (zo rfl (N5 _ (Chg.refl _ _))) ?_
  obtain ⟨r133, N9, hs⟩ := bind_some hs
  refine zy Bd46 rfl (YK (M := M) tuples x128 h2 r0 hO.fut N9) ?_
  rintro _ O0 ⟨rfl, f2⟩
  obtain ⟨h0, h1, h2, a0, f0, b3, b4, r0⟩ := xt8 f2 h0 h1 h2 a0 f0 b3 b4 r0
  obtain ⟨w9, hC, hO⟩ := xt3 f2 w9 hC hO
  refine za (.tuple #[(iv r133.1), (.bool r133.2)]) (zt rfl) (za (iv r133.1) (zO rfl (by kernel_rfl)) (za (.bool r133.2) (zO rfl (by kernel_rfl)) (ai rfl (ab rfl (zb (c_sr (ms rfl (mi rfl ?_))))))))
  obtain ⟨x134, O1, hs⟩ := bind_some hs
  obtain ⟨O2, a40, a41, a42, O3, O4, O5⟩ := zR Sl25 Sz43 f0 O1
  have O6 := Zv (Frz.os Frz.int) O4 O5
  refine za _ (O3 _ _ _ _ _ _ _ _ _ rfl rfl) ?_
  obtain ⟨a43, O7, hrow136, E3⟩ := ZG Ag43 Sz43 rfl rfl O6
  obtain ⟨O8, O9, P0, rfl⟩ := yd E3
  refine za (.slice O8 O9 P0) (zo rfl (O7 _ (Chg.refl _ _))) (za _ (zn Sl43 (zu E3) rfl) (za (.bool ((x134.length : Int) == 0)) (xz rfl rfl) (zb ?_)))
  rcases zf hs with ⟨x0, hs⟩ | ⟨x0, hs⟩
  ·refine zg (cb x0) (ze (ms rfl (mi rfl (mi rfl ?_))))
   obtain ⟨E4, m8, P1, E5, i4, E6⟩ := zi O0 [(iv k122)] 3
   refine za (w' := E4) (.slice (some ⟨m8, 0, none⟩) 1 1) (zG rfl (by rw [P1, E5]; kernel_rfl)) ?_
   obtain ⟨h0, h1, h2, a0, f0, b3, b4, hC⟩ := xt8 i4 h0 h1 h2 a0 f0 b3 b4 hC
   have hO := hO.new1 i4 E5 E6.lt
   have x1 := zT (r := ri) (M := M) (css := [[(iv k122)]]) (fps := [([] : List Nat)]) (xs := ([k122] : List Int)) E6 ⟨⟨rfl, rfl⟩, trivial⟩ (Nat.le_of_ble_eq_true rfl) (List.nodup_cons.2 ⟨(fun h => nomatch h), List.nodup_nil⟩)
   have x1 : (RT.os 3 ri).val M E4 (.slice (some ⟨m8, 0, none⟩) 1 1) [k122] [m8] := x1
   obtain ⟨x141, P2, hs⟩ := bind_some hs
   obtain ⟨E7, a44, E8, P3, P4, P5, P6⟩ := zR Sl25 Sz43 f0 P2
   have a45 := Zv (Frz.os Frz.int) P5 P6
   refine za _ (P4 _ _ _ _ _ _ _ _ _ rfl rfl) ?_
   have hO := hO.fr3
   obtain ⟨P7, P8, P9, k5, Q0, x2⟩ := yn (P := Try.prog) (c' := [(.slice (some ⟨m8, 0, none⟩) 1 1)]) E8 f0 P3 (fun g hg => hO.inM g (zA f0 g (by simpa using hg))) (Zs x1) (hO.drop.perm (R := ([m8]) ++ (([b2]) ++ (d3 ++ (([a1]) ++ ([]))))) (by simp)).nd (fun g hg hq => hO.apart g hq (by simp only [List.mem_append, List.not_mem_nil, false_or, or_false] at hg ⊢; simp [hg])) (fun _ h => .inl h)
   have l6 : ∀ q ∈ [E7], q ∈ k4 := fun q hq => zA f0 q (by rw [E8]; exact hq)
   refine Zk (w' := P7) (zV rfl rfl (P9 _ _ rfl Sz43)) ?_
   have hO := hO.fr1.fr1
   have h0 := h0.mt k5 hO l6
   have h1 := h1.mt k5 hO l6
   have h2 := h2.mt k5 hO l6
   have a0 := a0.ap k5 hO l6 (zl (zl (zl (zm (List.mem_singleton.2 rfl)))))
   have b3 := b3.ma k5 hO l6 (fun _ e => (zl (zl (zm (e)))))
   have b4 := b4.ma k5 hO l6 (fun _ e => (zl (zm (e))))
   have hC := hC.st k5 hO l6
   have hO := (hO.perm (R := k4 ++ (([m8]) ++ (([b2]) ++ (d3 ++ (([a1]) ++ ([])))))) (by simp)).eat k5 (fun q hq => (Q0 q hq).elim .inl (fun h => .inr (.inl h))) (zw x2) x2.fpl
   refine zb (ze (mi rfl (za _ (yad rfl rfl) (ai rfl (zb ?_)))))
   cases hs
   have hO := hO.fr3.fr1.fr3.fr3
   exact ⟨_, P8, zD 215 ⟨rfl, rfl, rfl, rfl, rfl, rfl, rfl, congrArg (Value.int .i64) hw, trivial⟩, hC, hO, h0, h1, h2, a0, x2, b3, b4⟩
  refine zh (cb x0) (wp_skip (ze (mi rfl (za _ (yad rfl rfl) (ai rfl (zb ?_))))))
  cases hs
  have hO := hO.fr3.fr3.fr3.fr3
  exact ⟨_, k4, zD 215 ⟨rfl, rfl, rfl, rfl, rfl, rfl, rfl, congrArg (Value.int .i64) hw, trivial⟩, hC, hO, h0, h1, h2, a0, f0, b3, b4⟩
 ·skip
  have hO := hO.fr3.fr3.fr3.fr3
  exact ⟨_, q3, fr_m 215 rfl, hC, hO, h0, h1, h2, a0, M9, b3, b4⟩
 cases o124 with
 | nx _ => exact True.intro
 | rt r_ =>
  have hs := zp hs
  intro e1 l3 hK
  cases hs
  exact hK
 | br s120 =>
  have hs := zq hs
  rintro e1 c1 ⟨σ, q9, rfl, hC, hO, h0, h1, h2, a0, Q1, b3, b4⟩
  refine zd (c_sr (ai rfl (zb ?_)))
  obtain ⟨o175, Q2, hs⟩ := bind_some hs
  refine wp_block (zW (id := 2) (a_.2.length : Int) (I := fun k173 s171 a c3 => ∃ (σ : Nat → Value) (i5 : List Nat), a = fr 215 (ovl σ [(1, (iv k)), (3, (.slice pa2 pn2 pc2)), (4, (pq a1 0)), (9, (.slice a4 a6 a5)), (10, (.slice a8 b0 a9)), (11, (.slice (some ⟨b2, 0, none⟩) 0 0)), (15, (iv k173))]) ∧ Chg [] w c3 ∧ Own (Nw w []) M c3 (([b2]) ++ (d3 ++ (i5 ++ (([a1]) ++ [])))) ∧ (RT.rs (RT.pr ri rl)).val M c3 (.slice pa0 pn0 pc0) a_.2 ([]) ∧ (RT.rs rl).val M c3 (.slice pa2 pn2 pc2) tuples ([]) ∧ BoxV c3 a1 35 [(iv a_.1), (.slice pa0 pn0 pc0)] ∧ (RT.os 43 (RT.os 3 ri)).val M c3 (.slice a4 a6 a5) s171 i5 ∧ (RT.os 4 RT.bool).val M c3 (.slice a8 b0 a9) y10 d3 ∧ (RT.os 3 ri).val M c3 (.slice (some ⟨b2, 0, none⟩) 0 0) ([]) ([b2])) (J := fun s171 a c3 => ∃ (σ : Nat → Value) (r1 : List Nat), a = fr 215 (ovl σ [(1, (iv k)), (3, (.slice pa2 pn2 pc2)), (4, (pq a1 0)), (9, (.slice a4 a6 a5)), (10, (.slice a8 b0 a9)), (11, (.slice (some ⟨b2, 0, none⟩) 0 0))]) ∧ Chg [] w c3 ∧ Own (Nw w []) M c3 (([b2]) ++ (d3 ++ (r1 ++ (([a1]) ++ [])))) ∧ (RT.rs (RT.pr ri rl)).val M c3 (.slice pa0 pn0 pc0) a_.2 ([]) ∧ (RT.rs rl).val M c3 (.slice pa2 pn2 pc2) tuples ([]) ∧ BoxV c3 a1 35 [(iv a_.1), (.slice pa0 pn0 pc0)] ∧ (RT.os 43 (RT.os 3 ri)).val M c3 (.slice a4 a6 a5) s171 r1 ∧ (RT.os 4 RT.bool).val M c3 (.slice a8 b0 a9) y10 d3 ∧ (RT.os 3 ri).val M c3 (.slice (some ⟨b2, 0, none⟩) 0 0) ([]) ([b2])) (K := (yl M w)) ?_ ?_ 0 s120 o175 _ _ ?_ Q2 ?_)
  ·rintro k173 s171 a c3 ⟨σ, i5, rfl, hC, hO, h0, h2, a0, g6, b3, b4⟩ hlt
   refine zd (c_sr (mi rfl (za (pq a1 1) (zk rfl ZD) (za _ (ld rfl Ag33 Sz33 a0 rfl) (za _ (zn Sl33 (zu h0) rfl) (za _ (zx rfl rfl) (zb (zh (cb (decide_eq_false hlt)) (wp_exit ?_)))))))))
   have hO := hO.fr3.fr3.fr3.fr3
   exact ⟨rfl, _, i5, fr_m 215 rfl, hC, hO, h0, h2, a0, g6, b3, b4⟩
  ·rintro k173 s171 o175 a c3 ⟨σ, i5, rfl, hC, hO, h0, h2, a0, g6, b3, b4⟩ hlt hw hs
   refine zd (c_sr (mi rfl (za (pq a1 1) (zk rfl ZD) (za _ (ld rfl Ag33 Sz33 a0 rfl) (za _ (zn Sl33 (zu h0) rfl) (za _ (zx rfl rfl) (zb (zg (cb (decide_eq_true hlt)) (wp_skip (zd (wp_block (c_sr (za (pq a1 1) (zk rfl ZD) (za _ (ld rfl Ag33 Sz33 a0 rfl) (mi rfl ?_)))))))))))))))
   obtain ⟨x179, Q3, hs⟩ := bind_some hs
   obtain ⟨E9, F0, Q4, Q5⟩ := zN Sl33 Sz89 h0 Q3
   refine za _ (Q4 _ _ _ _ _ _ _ _ _ rfl rfl) ?_
   obtain ⟨Q6, _⟩ := wF Q5
   refine za (.pointer (some ⟨E9, F0 + 0, none⟩)) (zk rfl yM) (za (iv x179.1) (zo rfl ((zz Ag3 Sz3 Q6) _ (Chg.refl _ _))) (za (.bool (x179.1 == 0)) (xz rfl rfl) (zb ?_)))
   rcases zf hs with ⟨x3, hs⟩ | ⟨x3, hs⟩
   ·refine zg (cb x3) (ze (ms rfl (ms rfl (za _ (ldw rfl Ag35 a0 Sz35) (mi rfl ?_)))))
    obtain ⟨F1, k6, Q7, F2, k7, F3⟩ := zi c3 [] 43
    refine za (w' := F1) (.slice (some ⟨k6, 0, none⟩) 0 0) (zG rfl (by rw [Q7, F2]; kernel_rfl)) ?_
    obtain ⟨h0, h2, a0, g6, b3, b4, hC⟩ := xt7 k7 h0 h2 a0 g6 b3 b4 hC
    have hO := hO.new1 k7 F2 F3.lt
    have i6 := os0 (r := (RT.os 3 ri)) (M := M) F3
    refine mi rfl ?_
    obtain ⟨r186, Q8, hs⟩ := bind_some hs
    refine zy Bd70 rfl (xh (M := (Less M ([k6]))) (a_.1, a_.2) k173 ([]) k (h0.sub Less.sub) (((Frz.os (Frz.os Frz.int))).val i6 Less.sub Less.not) hO.less.fut Q8) ?_
    rintro _ Q9 ⟨a46, a47, a48, r2, rfl, i7, l7, R0⟩
    obtain ⟨h0, h2, a0, g6, b3, b4, i6, hC⟩ := xt8 i7 h0 h2 a0 g6 b3 b4 i6 hC
    have hO := Own.join0 hO i7 R0
    have hO := hO.perm (R := r2 ++ (([k6]) ++ (([b2]) ++ (d3 ++ (i5 ++ (([a1]) ++ ([]))))))) (by simp)
    have l7 := l7.free (M' := M) (Free.os Free.int)
    refine mi rfl (za _ (ysu rfl rfl) ?_)
    obtain ⟨F4, p5, R1, F5, g7, F6⟩ := zi Q9 [(iv (w64 ((-1) - k173)))] 3
    refine za (w' := F4) (.slice (some ⟨p5, 0, none⟩) 1 1) (zG rfl (by rw [R1, F5]; kernel_rfl)) ?_
    obtain ⟨h0, h2, a0, g6, b3, b4, i6, l7⟩ := xt8 g7 h0 h2 a0 g6 b3 b4 i6 l7
    have hC := hC.ext g7
    have hO := hO.new1 g7 F5 F6.lt
    have x4 := zT (r := ri) (M := M) (css := [[(iv (w64 ((-1) - k173)))]]) (fps := [([] : List Nat)]) (xs := ([w64 ((-1) - k173)] : List Int)) F6 ⟨⟨rfl, rfl⟩, trivial⟩ (Nat.le_of_ble_eq_true rfl) (List.nodup_cons.2 ⟨(fun h => nomatch h), List.nodup_nil⟩)
    have x4 : (RT.os 3 ri).val M F4 (.slice (some ⟨p5, 0, none⟩) 1 1) [w64 ((-1) - k173)] [p5] := x4
    have hO := hO.fr1.fr1.fr5
    have x5 := hO
    have x5 := x5.fr2
    have F7 := Own.lend (F := (i5 ++ (([p5]) ++ ([])))) (R := ([k6]) ++ (([b2]) ++ (d3 ++ (([a1]) ++ ([]))))) (Own.perm (x5.less) (by simp))
    obtain ⟨r191, R2, hs⟩ := bind_some hs
    refine zy Bd94 rfl (xi (M := (Less M r2)) s171 tuples r186 ([w64 ((-1) - k173)]) (g6.sub Less.sub) (h2.sub Less.sub) (((Frz.os Frz.int)).val l7 Less.sub Less.not) (x4.sub Less.sub) F7 F7.fut R2) ?_
    rintro _ a49 ⟨F8, rfl, i9, x6, R3⟩
    have hO := hO.fr2.fr2.fr2.perm (R := (i5 ++ (([p5]) ++ ([]))) ++ (r2 ++ (([k6]) ++ (([b2]) ++ (d3 ++ (([a1]) ++ ([]))))))) (by simp)
    have h0 := h0.mt i9 hO zj
    have h2 := h2.mt i9 hO zj
    have a0 := a0.ap i9 hO zj (zl (zl (zl (zl (zm (List.mem_singleton.2 rfl))))))
    have b3 := b3.ma i9 hO zj (fun _ e => (zl (zl (zl (zm (e))))))
    have b4 := b4.ma i9 hO zj (fun _ e => (zl (zl (zm (e)))))
    have i6 := i6.ma i9 hO zj (fun _ e => (zl (zm (e))))
    have l7 := l7.ma i9 hO zj (fun _ e => (zm (e)))
    have hC := hC.st i9 hO zj
    have hO := Own.join hO i9 R3
    have hO := hO.perm (R := F8 ++ (r2 ++ (([k6]) ++ (([b2]) ++ (d3 ++ (([a1]) ++ ([]))))))) (by simp)
    have x6 := x6.free (M' := M) (Free.os (Free.os Free.int))
    refine zb (ze (mi rfl (za _ (yad rfl rfl) (ai rfl (zb ?_)))))
    cases hs
    have hO := hO.fr1.drop.fr1.drop.fr3.fr1.fr3.fr3
    exact ⟨_, F8, zD 215 ⟨rfl, rfl, rfl, rfl, rfl, rfl, congrArg (Value.int .i64) hw, trivial⟩, hC, hO, h0, h2, a0, x6, b3, b4⟩
   refine zh (cb x3) (wp_skip (ze (mi rfl (za _ (yad rfl rfl) (ai rfl (zb ?_))))))
   cases hs
   have hO := hO.fr3.fr3.fr3.fr3
   exact ⟨_, i5, zD 215 ⟨rfl, rfl, rfl, rfl, rfl, rfl, congrArg (Value.int .i64) hw, trivial⟩, hC, hO, h0, h2, a0, g6, b3, b4⟩
  ·skip
   have hO := hO.fr3.fr3.fr3.fr3
   exact ⟨_, q9, fr_m 215 rfl, hC, hO, h0, h2, a0, Q1, b3, b4⟩
  cases o175 with
  | nx _ => exact True.intro
  | rt r_ =>
   have hs := zp hs
   intro e1 l3 hK
   cases hs
   exact hK
  | br s171 =>
   have hs := zq hs
   rintro e1 c3 ⟨σ, r1, rfl, hC, hO, h0, h2, a0, R4, b3, b4⟩
   obtain ⟨o3257, R5, hs⟩ := bind_some hs
   refine wp_block (Zt (id := 4) (I := fun s3253 a d4 => ∃ (σ : Nat → Value) (b9 : Nat → Prop) (j0 : Option Addr) (j1 : Nat) (j2 : Nat) (l8 : List Nat) (g8 : List Nat) (k8 : List Nat), a = fr 215 (ovl σ [(1, (iv k)), (3, (.slice pa2 pn2 pc2)), (4, (pq a1 0)), (9, (.slice a4 a6 a5)), (10, (.slice a8 b0 a9)), (11, (.slice j0 j1 j2))]) ∧ Chg [] w d4 ∧ Own (Nw w []) b9 d4 (l8 ++ (k8 ++ (g8 ++ (([a1]) ++ [])))) ∧ Keeps w M b9 ∧ (RT.rs (RT.pr ri rl)).val b9 d4 (.slice pa0 pn0 pc0) a_.2 ([]) ∧ (RT.rs rl).val b9 d4 (.slice pa2 pn2 pc2) tuples ([]) ∧ BoxV d4 a1 35 [(iv a_.1), (.slice pa0 pn0 pc0)] ∧ (RT.os 43 (RT.os 3 ri)).val b9 d4 (.slice a4 a6 a5) s3253.2.1 g8 ∧ (RT.os 4 RT.bool).val b9 d4 (.slice a8 b0 a9) s3253.2.2 k8 ∧ (RT.os 3 ri).val b9 d4 (.slice j0 j1 j2) s3253.1 l8) (J := fun s3253 a d4 => ∃ (σ : Nat → Value) (l9 : Nat → Prop) (R6 : Option Addr) (R7 : Nat) (R8 : Nat) (F9 : List Nat) (G0 : List Nat) (G1 : List Nat), a = fr 215 (ovl σ []) ∧ Chg [] w d4 ∧ Own (Nw w []) l9 d4 (F9 ++ (G1 ++ (G0 ++ (([a1]) ++ [])))) ∧ Keeps w M l9 ∧ (RT.rs (RT.pr ri rl)).val l9 d4 (.slice pa0 pn0 pc0) a_.2 ([]) ∧ (RT.rs rl).val l9 d4 (.slice pa2 pn2 pc2) tuples ([]) ∧ BoxV d4 a1 35 [(iv a_.1), (.slice pa0 pn0 pc0)] ∧ (RT.os 43 (RT.os 3 ri)).val l9 d4 (.slice a4 a6 a5) s3253.2.1 G0 ∧ (RT.os 4 RT.bool).val l9 d4 (.slice a8 b0 a9) s3253.2.2 G1 ∧ (RT.os 3 ri).val l9 d4 (.slice R6 R7 R8) s3253.1 F9) (K := (yl M w)) ?_ FU ([], s171, y10) o3257 _ _ ?_ R5 ?_)
   ·rintro s3253 o3257 a d4 ⟨σ, b9, j0, j1, j2, l8, g8, k8, rfl, hC, hO, hK, h0, h2, a0, b6, d5, d1⟩ hs
    refine wp_block (c_sr (ai rfl (zb (zd (c_sr (ai rfl (zb ?_)))))))
    obtain ⟨o3297, R9, hs⟩ := bind_some hs
    refine wp_block (zW (id := 6) (s3253.2.1.length : Int) (I := fun k3295 s3293 a c0 => ∃ (σ : Nat → Value), a = fr 215 (ovl σ [(1, (iv k)), (3, (.slice pa2 pn2 pc2)), (4, (pq a1 0)), (9, (.slice a4 a6 a5)), (10, (.slice a8 b0 a9)), (11, (.slice j0 j1 j2)), (16, (iv s3293)), (17, (iv k3295))]) ∧ Chg [] w c0 ∧ Own (Nw w []) b9 c0 (l8 ++ (k8 ++ (g8 ++ (([a1]) ++ [])))) ∧ (RT.rs (RT.pr ri rl)).val b9 c0 (.slice pa0 pn0 pc0) a_.2 ([]) ∧ (RT.rs rl).val b9 c0 (.slice pa2 pn2 pc2) tuples ([]) ∧ BoxV c0 a1 35 [(iv a_.1), (.slice pa0 pn0 pc0)] ∧ (RT.os 43 (RT.os 3 ri)).val b9 c0 (.slice a4 a6 a5) s3253.2.1 g8 ∧ (RT.os 4 RT.bool).val b9 c0 (.slice a8 b0 a9) s3253.2.2 k8 ∧ (RT.os 3 ri).val b9 c0 (.slice j0 j1 j2) s3253.1 l8) (J := fun s3293 a c0 => ∃ (σ : Nat → Value), a = fr 215 (ovl σ [(1, (iv k)), (3, (.slice pa2 pn2 pc2)), (4, (pq a1 0)), (9, (.slice a4 a6 a5)), (10, (.slice a8 b0 a9)), (11, (.slice j0 j1 j2)), (16, (iv s3293))]) ∧ Chg [] w c0 ∧ Own (Nw w []) b9 c0 (l8 ++ (k8 ++ (g8 ++ (([a1]) ++ [])))) ∧ (RT.rs (RT.pr ri rl)).val b9 c0 (.slice pa0 pn0 pc0) a_.2 ([]) ∧ (RT.rs rl).val b9 c0 (.slice pa2 pn2 pc2) tuples ([]) ∧ BoxV c0 a1 35 [(iv a_.1), (.slice pa0 pn0 pc0)] ∧ (RT.os 43 (RT.os 3 ri)).val b9 c0 (.slice a4 a6 a5) s3253.2.1 g8 ∧ (RT.os 4 RT.bool).val b9 c0 (.slice a8 b0 a9) s3253.2.2 k8 ∧ (RT.os 3 ri).val b9 c0 (.slice j0 j1 j2) s3253.1 l8) (K := (yl M w)) ?_ ?_ 0 (-1) o3297 _ _ ?_ R9 ?_)
    ·rintro k3295 s3293 a c0 ⟨σ, rfl, hC, hO, h0, h2, a0, b6, d5, d1⟩ hlt
     refine zd (c_sr (mi rfl (ms rfl (za _ (zn Sl25 (ZV b6) rfl) (za _ (zx rfl rfl) (zb (zh (cb (decide_eq_false hlt)) (wp_exit ?_))))))))
     have hO := hO.fr3.fr3.fr3.fr3
     exact ⟨rfl, _, fr_m 215 rfl, hC, hO, h0, h2, a0, b6, d5, d1⟩
    ·rintro k3295 s3293 o3297 a c0 ⟨σ, rfl, hC, hO, h0, h2, a0, b6, d5, d1⟩ hlt hw hs
     refine zd (c_sr (mi rfl (ms rfl (za _ (zn Sl25 (ZV b6) rfl) (za _ (zx rfl rfl) (zb (zg (cb (decide_eq_true hlt)) (wp_skip (zd (wp_block (zd ?_)))))))))))
     obtain ⟨s3299, S0, hs⟩ := bind_some hs
     refine yO (I := fun a G2 => ∃ (σ : Nat → Value), a = fr 215 (ovl σ [(1, (iv k)), (3, (.slice pa2 pn2 pc2)), (4, (pq a1 0)), (9, (.slice a4 a6 a5)), (10, (.slice a8 b0 a9)), (11, (.slice j0 j1 j2)), (16, (iv s3293)), (17, (iv k3295)), (116, (.bool s3299))]) ∧ Chg [] c0 G2) ?_ ?_
     ·replace hs := S0
      have hMid := Chg.refl [] c0
      refine Ze [] Mx rfl ?_
      have g9 := Chg.drew c0
      generalize World.drew c0 = S1 at g9 ⊢
      obtain ⟨h0, h2, a0, b6, d5, d1, hMid, hC⟩ := xt8 g9 h0 h2 a0 b6 d5 d1 hMid hC
      have hO := hO.ext g9
      have hS := Chg.refl [] S1
      refine xms 0 rfl rfl hS (xmi 1 rfl rfl hS ?_)
      obtain ⟨x3303, S2, hs⟩ := bind_some hs
      obtain ⟨S3, a50, a51, a52, S4, x7, a53⟩ := zR Sl111 Sz4 d5 S2
      refine xq 2 _ rfl (S4 _ _ _ _ _ _ _ _ _ rfl rfl) hS (x_l 3 (.bool x3303) rfl (by kernel_rfl)  (fun w' hw' => zo rfl ((uS Ag4 Sz4 x7) w' hw')) hS (xq 4 _ rfl (ZQ rfl) hS (xmb 5 rfl rfl hS ?_)))
      rcases zf hs with ⟨e2, hs⟩ | ⟨e2, hs⟩
      ·skip
       refine xpy 6 94 (.slice a4 a6 a5) rfl (cb e2) (zt rfl) hS (xpy 7 94 (iv k3295) rfl (cb e2) (zt rfl) hS ?_)
       obtain ⟨x3306, S5, hs⟩ := bind_some hs
       obtain ⟨S6, a54, a55, a56, S7, x8, S8⟩ := zR Sl25 Sz43 b6 S5
       have x9 := Zv (Frz.os Frz.int) x8 S8
       refine xpy 8 94 _ rfl (cb e2) (S7 _ _ _ _ _ _ _ _ _ rfl rfl) hS ?_
       obtain ⟨a57, S9, hrow3308, r3⟩ := ZG Ag43 Sz43 rfl rfl x9
       obtain ⟨T0, T1, T2, rfl⟩ := yd r3
       refine x_ly 9 (.slice T0 T1 T2) rfl (by kernel_rfl) (tg := 94) (by kernel_rfl) (cb e2) (fun w' hw' => zo rfl (S9 w' hw')) hS (xpy 10 94 _ rfl (cb e2) (zn Sl43 (zu r3) rfl) hS (xpy 11 94 _ rfl (cb e2) (YJ rfl rfl) hS (xq 12 _ rfl (ptb (cb e2) rfl) hS (xmb 13 rfl rfl hS ?_))))
       rcases zf hs with ⟨e6, hs⟩ | ⟨e6, hs⟩
       ·skip
        refine xpy 14 102 (iv s3293) rfl (cb e6) (zt rfl) hS (xpy 15 102 _ rfl (cb e6) (zx rfl rfl) hS (xpy 16 102 (.bool (decide (s3293 < 0))) rfl (cb e6) (zt rfl) hS ?_))
        rcases zf hs with ⟨c4, hs⟩ | ⟨c4, hs⟩
        ·skip
         refine xpn 17 105 rfl (cb c4) hS (xpn 18 105 rfl (cb c4) hS (xpn 19 105 rfl (cb c4) hS (xpn 20 105 rfl (cb c4) hS (xpn 21 105 rfl (cb c4) hS (xpn 22 105 rfl (cb c4) hS (xpn 23 105 rfl (cb c4) hS (xpn 24 105 rfl (cb c4) hS (xpn 25 105 rfl (cb c4) hS (xpy 26 102 _ rfl (cb e6) (ptb (cb c4) rfl) hS (xq 27 _ rfl (ptb (cb e6) rfl) hS (Zc (by kernel_rfl) ?_)))))))))))
         clear hS
         cases hs
         exact ⟨_, fr_m 215 rfl, hMid⟩
        refine xpy 17 105 (.slice a4 a6 a5) rfl (cb c4) (zt rfl) hS (xpy 18 105 (iv k3295) rfl (cb c4) (zt rfl) hS ?_)
        obtain ⟨x3312, T3, hs⟩ := bind_some hs
        obtain ⟨T4, a58, a59, a60, T5, y0, T6⟩ := zR Sl25 Sz43 b6 T3
        have y1 := Zv (Frz.os Frz.int) y0 T6
        refine xpy 19 105 _ rfl (cb c4) (T5 _ _ _ _ _ _ _ _ _ rfl rfl) hS ?_
        obtain ⟨a61, T7, hrow3314, r4⟩ := ZG Ag43 Sz43 rfl rfl y1
        obtain ⟨T8, T9, U0, rfl⟩ := yd r4
        refine x_ly 20 (.slice T8 T9 U0) rfl (by kernel_rfl) (tg := 105) (by kernel_rfl) (cb c4) (fun w' hw' => zo rfl (T7 w' hw')) hS (xpy 21 105 (.slice a4 a6 a5) rfl (cb c4) (zt rfl) hS (xpy 22 105 (iv s3293) rfl (cb c4) (zt rfl) hS ?_))
        obtain ⟨x3316, U1, hs⟩ := bind_some hs
        obtain ⟨U2, a62, a63, a64, U3, y2, U4⟩ := zR Sl25 Sz43 b6 U1
        have y3 := Zv (Frz.os Frz.int) y2 U4
        refine xpy 23 105 _ rfl (cb c4) (U3 _ _ _ _ _ _ _ _ _ rfl rfl) hS ?_
        obtain ⟨a65, U5, hrow3318, r5⟩ := ZG Ag43 Sz43 rfl rfl y3
        obtain ⟨U6, U7, U8, rfl⟩ := yd r5
        refine x_ly 24 (.slice U6 U7 U8) rfl (by kernel_rfl) (tg := 105) (by kernel_rfl) (cb c4) (fun w' hw' => zo rfl (U5 w' hw')) hS (zP (i := 25) (by kernel_rfl) ?_)
        have hO := hO.fr2
        obtain ⟨r3321, U9, hs⟩ := bind_some hs
        refine XG (b := false) rfl (tg := 105) (by kernel_rfl) (cb c4) Bd95 rfl (XX (M := (Less b9 g8)) x3312 x3316 r4 r5 hO.less.fut U9) rfl (by rintro _ _ _ ⟨rfl, b7⟩; exact hS.ext b7) ?_
        rintro _ a66 ⟨rfl, b7⟩
        obtain ⟨h0, h2, a0, b6, d5, d1, r3, hrow3308⟩ := xt8 b7 h0 h2 a0 b6 d5 d1 r3 hrow3308
        obtain ⟨r4, hrow3314, r5, hrow3318, hMid, x7, x8, x9⟩ := xt8 b7 r4 hrow3314 r5 hrow3318 hMid x7 x8 x9
        obtain ⟨y0, y1, y2, y3, hC, hO, hS⟩ := xt7 b7 y0 y1 y2 y3 hC hO hS
        refine xpy 26 102 _ rfl (cb e6) (pfb (cb c4) rfl) hS (xq 27 _ rfl (ptb (cb e6) rfl) hS (Zc (by kernel_rfl) ?_))
        clear hS
        cases hs
        exact ⟨_, fr_m 215 rfl, hMid⟩
       refine xpn 14 102 rfl (cb e6) hS (xpn 15 102 rfl (cb e6) hS (xpn 16 102 rfl (cb e6) hS (xo 17 rfl (by kernel_rfl) (tg := 105) (by kernel_rfl) rfl (fun _ => hS) (xo 18 rfl (by kernel_rfl) (tg := 105) (by kernel_rfl) rfl (fun _ => hS) (xo 19 rfl (by kernel_rfl) (tg := 105) (by kernel_rfl) rfl (fun _ => hS) (xo 20 rfl (by kernel_rfl) (tg := 105) (by kernel_rfl) rfl (fun _ => hS) (xo 21 rfl (by kernel_rfl) (tg := 105) (by kernel_rfl) rfl (fun _ => hS) (xo 22 rfl (by kernel_rfl) (tg := 105) (by kernel_rfl) rfl (fun _ => hS) (xo 23 rfl (by kernel_rfl) (tg := 105) (by kernel_rfl) rfl (fun _ => hS) (xo 24 rfl (by kernel_rfl) (tg := 105) (by kernel_rfl) rfl (fun _ => hS) (xo 25 rfl (by kernel_rfl) (tg := 105) (by kernel_rfl) rfl (fun _ => hS) (xpn 26 102 rfl (cb e6) hS (xq 27 _ rfl (pfb (cb e6) rfl) hS (Zc (by kernel_rfl) ?_))))))))))))))
       clear hS
       cases hs
       exact ⟨_, fr_m 215 rfl, hMid⟩
      refine xpn 6 94 rfl (cb e2) hS (xpn 7 94 rfl (cb e2) hS (xpn 8 94 rfl (cb e2) hS (xpn 9 94 rfl (cb e2) hS (xpn 10 94 rfl (cb e2) hS (xpn 11 94 rfl (cb e2) hS (xq 12 _ rfl (pfb (cb e2) rfl) hS (xmb 13 rfl rfl hS (xpn 14 102 rfl (by rfl) hS (xpn 15 102 rfl (by rfl) hS (xpn 16 102 rfl (by rfl) hS (xo 17 rfl (by kernel_rfl) (tg := 105) (by kernel_rfl) rfl (fun _ => hS) (xo 18 rfl (by kernel_rfl) (tg := 105) (by kernel_rfl) rfl (fun _ => hS) (xo 19 rfl (by kernel_rfl) (tg := 105) (by kernel_rfl) rfl (fun _ => hS) (xo 20 rfl (by kernel_rfl) (tg := 105) (by kernel_rfl) rfl (fun _ => hS) (xo 21 rfl (by kernel_rfl) (tg := 105) (by kernel_rfl) rfl (fun _ => hS) (xo 22 rfl (by kernel_rfl) (tg := 105) (by kernel_rfl) rfl (fun _ => hS) (xo 23 rfl (by kernel_rfl) (tg := 105) (by kernel_rfl) rfl (fun _ => hS) (xo 24 rfl (by kernel_rfl) (tg := 105) (by kernel_rfl) rfl (fun _ => hS) (xo 25 rfl (by kernel_rfl) (tg := 105) (by kernel_rfl) rfl (fun _ => hS) (xpn 26 102 rfl (by rfl) hS (xq 27 _ rfl (pfb (by rfl) rfl) hS (Zc (by kernel_rfl) ?_))))))))))))))))))))))
      clear hS
      cases hs
      exact ⟨_, fr_m 215 rfl, hMid⟩
     rintro e1 G2 ⟨σ, rfl, k9⟩
     obtain ⟨h0, h2, a0, b6, d5, d1, hC, hO⟩ := xt8 k9 h0 h2 a0 b6 d5 d1 hC hO
     rcases zf hs with ⟨y4, hs⟩ | ⟨y4, hs⟩
     ·refine zg (cb y4) (ze (mi rfl (ai rfl (zb (ze (mi rfl (za _ (yad rfl rfl) (ai rfl (zb ?_)))))))))
      cases hs
      have hO := hO.fr3.fr3.fr3.fr3
      exact ⟨_, zD 215 ⟨rfl, rfl, rfl, rfl, rfl, rfl, rfl, congrArg (Value.int .i64) hw, trivial⟩, hC, hO, h0, h2, a0, b6, d5, d1⟩
     refine zh (cb y4) (wp_skip (ze (mi rfl (za _ (yad rfl rfl) (ai rfl (zb ?_))))))
     cases hs
     have hO := hO.fr3.fr3.fr3.fr3
     exact ⟨_, zD 215 ⟨rfl, rfl, rfl, rfl, rfl, rfl, rfl, congrArg (Value.int .i64) hw, trivial⟩, hC, hO, h0, h2, a0, b6, d5, d1⟩
    ·skip
     have hO := hO.fr3.fr3.fr3.fr3
     exact ⟨_, fr_m 215 rfl, hC, hO, h0, h2, a0, b6, d5, d1⟩
    cases o3297 with
    | nx _ => exact True.intro
    | rt r_ =>
     have hs := zp hs
     intro e1 l3 hK
     cases hs
     exact hK
    | br s3293 =>
     have hs := zq hs
     rintro e1 c0 ⟨σ, rfl, hC, hO, h0, h2, a0, b6, d5, d1⟩
     refine zd (c_sr (mi rfl (za _ (zx rfl rfl) (zb ?_))))
     rcases zf hs with ⟨y5, hs⟩ | ⟨y5, hs⟩
     ·refine zg (cb y5) (c_sr (ms rfl (ax rfl (zb (wp_ret ?_)))))
      cases hs
      have hO := hO.drop.drop.fr1.drop
      exact ⟨_, a4, a6, a5, g8, fr_m 215 rfl, hC, (b6.free (Free.os (Free.os Free.int))), hO.top⟩
     refine zh (cb y5) (wp_skip (c_sr (ms rfl (mi rfl ?_))))
     obtain ⟨x3324, V0, hs⟩ := bind_some hs
     obtain ⟨G3, a67, G4, V1, V2, a68, a69⟩ := zR Sl111 Sz4 d5 V0
     refine za _ (V2 _ _ _ _ _ _ _ _ _ rfl rfl) ?_
     have hO := hO.fr1
     obtain ⟨G5, c5, V3, m0, V4, a2⟩ := yn (P := Try.prog) (c' := [(.bool true)]) G4 d5 V1 (fun g hg => hO.inM g (zA d5 g (by simpa using hg))) ⟨rfl, rfl⟩ List.nodup_nil (fun _ h => nomatch h) (fun _ h => .inl h)
     have m9 : ∀ q ∈ [G3], q ∈ k8 := fun q hq => zA d5 q (by rw [G4]; exact hq)
     refine Zk (w' := G5) (zV rfl rfl (V3 _ _ rfl Sz4)) ?_
     have h0 := h0.mt m0 hO m9
     have h2 := h2.mt m0 hO m9
     have a0 := a0.ap m0 hO m9 (zl (zl (zm (List.mem_singleton.2 rfl))))
     have b6 := b6.ma m0 hO m9 (fun _ e => (zl (zm (e))))
     have d1 := d1.ma m0 hO m9 (fun _ e => (zm (e)))
     have hC := hC.st m0 hO m9
     have hO := hO.grow m0 (fun q hq => .inl ((V4 q hq).resolve_right (fun h => nomatch h))) (zw a2) a2.fpl
     refine zb (c_sr (ms rfl (mi rfl ?_)))
     obtain ⟨G6, y6, V5, G7, l0, G8⟩ := zi G5 [(iv s3293)] 3
     refine za (w' := G6) (.slice (some ⟨y6, 0, none⟩) 1 1) (zG rfl (by rw [V5, G7]; kernel_rfl)) ?_
     obtain ⟨h0, h2, a0, b6, a2, d1, hC⟩ := xt7 l0 h0 h2 a0 b6 a2 d1 hC
     have hO := hO.new1 l0 G7 G8.lt
     have y8 := zT (r := ri) (M := b9) (css := [[(iv s3293)]]) (fps := [([] : List Nat)]) (xs := ([s3293] : List Int)) G8 ⟨⟨rfl, rfl⟩, trivial⟩ (Nat.le_of_ble_eq_true rfl) (List.nodup_cons.2 ⟨(fun h => nomatch h), List.nodup_nil⟩)
     have y8 : (RT.os 3 ri).val b9 G6 (.slice (some ⟨y6, 0, none⟩) 1 1) [s3293] [y6] := y8
     obtain ⟨y3330, V6, hs⟩ := bind_some hs
     have hO := hO.fr2
     obtain ⟨c6, c7, c8, V7, c9, V8, m1, V9, a3⟩ := Yc Rw43 V6 d1 y8 hO.inM (fun g hg hq => hO.apart g hq (zm hg))
     have n0 := zA d1
     refine za (w' := V7) (.slice c6 c7 c8) (zU rfl rfl (V8 _)) ?_
     have hO := hO.fr1.fr1
     have h0 := h0.mt m1 hO n0
     have h2 := h2.mt m1 hO n0
     have a0 := a0.ap m1 hO n0 (zl (zl (zl (zm (List.mem_singleton.2 rfl)))))
     have b6 := b6.ma m1 hO n0 (fun _ e => (zl (zl (zm (e)))))
     have a2 := a2.ma m1 hO n0 (fun _ e => (zl (zm (e))))
     have hC := hC.st m1 hO n0
     have hO := hO.eat m1 V9 (zw a3) a3.fpl
     refine ax rfl (zb (c_sr (ms rfl (za _ (zn Sl43 (ZV a3) rfl) (za _ (ysu rfl rfl) (ai rfl (zb (c_sr (ai rfl (zb ?_))))))))))
     obtain ⟨o4306, W0, hs⟩ := bind_some hs
     refine wp_block (zW (id := 8) (a_.2.length : Int) (I := fun k4304 s4302 a c2 => ∃ (σ : Nat → Value) (f1 : Nat → Prop) (n1 : List Nat), a = fr 215 (ovl σ [(1, (iv k)), (3, (.slice pa2 pn2 pc2)), (4, (pq a1 0)), (9, (.slice a4 a6 a5)), (10, (.slice a8 b0 a9)), (11, (.slice c6 c7 c8)), (18, (iv (w64 ((y3330.length : Int) - 1)))), (19, (iv k4304))]) ∧ Chg [] w c2 ∧ Own (Nw w []) f1 c2 (c9 ++ (c5 ++ (n1 ++ (([a1]) ++ [])))) ∧ Keeps w M f1 ∧ (RT.rs (RT.pr ri rl)).val f1 c2 (.slice pa0 pn0 pc0) a_.2 ([]) ∧ (RT.rs rl).val f1 c2 (.slice pa2 pn2 pc2) tuples ([]) ∧ BoxV c2 a1 35 [(iv a_.1), (.slice pa0 pn0 pc0)] ∧ (RT.os 43 (RT.os 3 ri)).val f1 c2 (.slice a4 a6 a5) s4302 n1 ∧ (RT.os 4 RT.bool).val f1 c2 (.slice a8 b0 a9) (List.set s3253.2.2 (Int.toNat s3293) true) c5 ∧ (RT.os 3 ri).val f1 c2 (.slice c6 c7 c8) y3330 c9) (J := fun s4302 a c2 => ∃ (σ : Nat → Value) (j3 : Nat → Prop) (r6 : List Nat), a = fr 215 (ovl σ [(1, (iv k)), (3, (.slice pa2 pn2 pc2)), (4, (pq a1 0)), (9, (.slice a4 a6 a5)), (10, (.slice a8 b0 a9)), (11, (.slice c6 c7 c8))]) ∧ Chg [] w c2 ∧ Own (Nw w []) j3 c2 (c9 ++ (c5 ++ (r6 ++ (([a1]) ++ [])))) ∧ Keeps w M j3 ∧ (RT.rs (RT.pr ri rl)).val j3 c2 (.slice pa0 pn0 pc0) a_.2 ([]) ∧ (RT.rs rl).val j3 c2 (.slice pa2 pn2 pc2) tuples ([]) ∧ BoxV c2 a1 35 [(iv a_.1), (.slice pa0 pn0 pc0)] ∧ (RT.os 43 (RT.os 3 ri)).val j3 c2 (.slice a4 a6 a5) s4302 r6 ∧ (RT.os 4 RT.bool).val j3 c2 (.slice a8 b0 a9) (List.set s3253.2.2 (Int.toNat s3293) true) c5 ∧ (RT.os 3 ri).val j3 c2 (.slice c6 c7 c8) y3330 c9) (K := (yl M w)) ?_ ?_ 0 s3253.2.1 o4306 _ _ ?_ W0 ?_)
     ·rintro k4304 s4302 a c2 ⟨σ, f1, n1, rfl, hC, hO, hK, h0, h2, a0, m2, a2, a3⟩ hlt
      refine zd (c_sr (mi rfl (za (pq a1 1) (zk rfl ZD) (za _ (ld rfl Ag33 Sz33 a0 rfl) (za _ (zn Sl33 (zu h0) rfl) (za _ (zx rfl rfl) (zb (zh (cb (decide_eq_false hlt)) (wp_exit ?_)))))))))
      have hO := hO.fr3.fr3.fr3.fr3
      exact ⟨rfl, _, f1, n1, fr_m 215 rfl, hC, hO, hK, h0, h2, a0, m2, a2, a3⟩
     ·rintro k4304 s4302 o4306 a c2 ⟨σ, f1, n1, rfl, hC, hO, hK, h0, h2, a0, m2, a2, a3⟩ hlt hw hs
      refine zd (c_sr (mi rfl (za (pq a1 1) (zk rfl ZD) (za _ (ld rfl Ag33 Sz33 a0 rfl) (za _ (zn Sl33 (zu h0) rfl) (za _ (zx rfl rfl) (zb (zg (cb (decide_eq_true hlt)) (wp_skip (zd (wp_block (zd (Ze [] Mx rfl ?_)))))))))))))
      have j4 := Chg.drew c2
      generalize World.drew c2 = G9 at j4 ⊢
      obtain ⟨h0, h2, a0, m2, a2, a3, hC, hO⟩ := xt8 j4 h0 h2 a0 m2 a2 a3 hC hO
      have hS := Chg.refl [] G9
      refine xq 0 (pq a1 1) rfl (zk rfl ZD) hS (xl 1 rfl (ldx rfl Ag33 Sz33 a0 rfl) hS (xmi 2 rfl rfl hS ?_))
      obtain ⟨x4323, W1, hs⟩ := bind_some hs
      obtain ⟨H0, H1, W2, y9⟩ := zN Sl33 Sz89 h0 W1
      refine xq 3 _ rfl (W2 _ _ _ _ _ _ _ _ _ rfl rfl) hS ?_
      obtain ⟨z0, _⟩ := wF y9
      refine xq 4 (.pointer (some ⟨H0, H1 + 0, none⟩)) rfl (zk rfl yM) hS (x_l 5 (iv x4323.1) rfl (by kernel_rfl)  (fun w' hw' => zo rfl ((zz Ag3 Sz3 z0) w' hw')) hS (xq 7 (pq a1 1) rfl (zk rfl ZD) hS (xl 8 rfl (ldx rfl Ag33 Sz33 a0 rfl) hS (xmi 9 rfl rfl hS ?_))))
      obtain ⟨x4326, W3, hs⟩ := bind_some hs
      obtain ⟨H2, H3, W4, z1⟩ := zN Sl33 Sz89 h0 W3
      refine xq 10 _ rfl (W4 _ _ _ _ _ _ _ _ _ rfl rfl) hS ?_
      obtain ⟨z2, _⟩ := wF z1
      refine xq 11 (.pointer (some ⟨H2, H3 + 0, none⟩)) rfl (zk rfl yM) hS (x_l 12 (iv x4326.1) rfl (by kernel_rfl)  (fun w' hw' => zo rfl ((zz Ag3 Sz3 z2) w' hw')) hS (xq 13 _ rfl (YJ rfl rfl) hS (zP (i := 6) (by kernel_rfl) ?_)))
      obtain ⟨y4330, W5, hs⟩ := bind_some hs
      obtain ⟨z3, z4, z5, W6, W7, W8, e5, W9, z6⟩ := YI (M := f1) (w := G9) (r := ri) Rw43 W5 (fun _ _ => ⟨rfl, rfl⟩)
      refine zS (w' := W6) (b := false) (.slice z3 z4 z5) rfl  (yL rfl rfl W8) rfl (fun _ => hS.ext e5) ?_
      obtain ⟨h0, h2, a0, m2, a2, a3, y9, z0⟩ := xt8 e5 h0 h2 a0 m2 a2 a3 y9 z0
      obtain ⟨z1, z2, hC⟩ := xt3 e5 z1 z2 hC
      have hO := hO.new e5 W9 (zw z6) z6.fpl
      have hS := hS.ext e5
      refine xq 14 (.slice z3 z4 z5) rfl (zE rfl) hS (xq 15 (.bool (decide (0 < x4326.1))) rfl (zE rfl) hS (Zc (by kernel_rfl) ?_))
      clear hS
      obtain ⟨o4638, X0, hs⟩ := bind_some hs
      refine wp_block (Zt (id := 10) (I := fun s4634 a d0 => ∃ (σ : Nat → Value) (d6 : Nat → Prop) (d7 : Option Addr) (d8 : Nat) (d9 : Nat) (d2 : List Nat) (e3 : List Nat), a = fr 215 (ovl σ [(1, (iv k)), (3, (.slice pa2 pn2 pc2)), (4, (pq a1 0)), (9, (.slice a4 a6 a5)), (10, (.slice a8 b0 a9)), (11, (.slice c6 c7 c8)), (18, (iv (w64 ((y3330.length : Int) - 1)))), (19, (iv k4304)), (20, (.slice d7 d8 d9)), (21, (.bool s4634.2.1))]) ∧ Chg [] w d0 ∧ Own (Nw w []) d6 d0 (d2 ++ (c9 ++ (c5 ++ (e3 ++ (([a1]) ++ []))))) ∧ Keeps w M d6 ∧ (RT.rs (RT.pr ri rl)).val d6 d0 (.slice pa0 pn0 pc0) a_.2 ([]) ∧ (RT.rs rl).val d6 d0 (.slice pa2 pn2 pc2) tuples ([]) ∧ BoxV d0 a1 35 [(iv a_.1), (.slice pa0 pn0 pc0)] ∧ (RT.os 43 (RT.os 3 ri)).val d6 d0 (.slice a4 a6 a5) s4634.2.2 e3 ∧ (RT.os 4 RT.bool).val d6 d0 (.slice a8 b0 a9) (List.set s3253.2.2 (Int.toNat s3293) true) c5 ∧ (RT.os 3 ri).val d6 d0 (.slice c6 c7 c8) y3330 c9 ∧ (RT.os 3 ri).val d6 d0 (.slice d7 d8 d9) s4634.1 d2) (J := fun s4634 a d0 => ∃ (σ : Nat → Value) (h3 : Nat → Prop) (H4 : Option Addr) (H5 : Nat) (H6 : Nat) (z7 : List Nat) (r7 : List Nat), a = fr 215 (ovl σ [(1, (iv k)), (3, (.slice pa2 pn2 pc2)), (4, (pq a1 0)), (9, (.slice a4 a6 a5)), (10, (.slice a8 b0 a9)), (11, (.slice c6 c7 c8)), (18, (iv (w64 ((y3330.length : Int) - 1)))), (19, (iv k4304))]) ∧ Chg [] w d0 ∧ Own (Nw w []) h3 d0 (z7 ++ (c9 ++ (c5 ++ (r7 ++ (([a1]) ++ []))))) ∧ Keeps w M h3 ∧ (RT.rs (RT.pr ri rl)).val h3 d0 (.slice pa0 pn0 pc0) a_.2 ([]) ∧ (RT.rs rl).val h3 d0 (.slice pa2 pn2 pc2) tuples ([]) ∧ BoxV d0 a1 35 [(iv a_.1), (.slice pa0 pn0 pc0)] ∧ (RT.os 43 (RT.os 3 ri)).val h3 d0 (.slice a4 a6 a5) s4634.2.2 r7 ∧ (RT.os 4 RT.bool).val h3 d0 (.slice a8 b0 a9) (List.set s3253.2.2 (Int.toNat s3293) true) c5 ∧ (RT.os 3 ri).val h3 d0 (.slice c6 c7 c8) y3330 c9 ∧ (RT.os 3 ri).val h3 d0 (.slice H4 H5 H6) s4634.1 z7) (K := (yl M w)) ?_ FU (y4330, (decide (0 < x4326.1)), s4302) o4638 _ _ ?_ X0 ?_)
      ·rintro s4634 o4638 a d0 ⟨σ, d6, d7, d8, d9, d2, e3, rfl, hC, hO, hK, h0, h2, a0, b1, a2, a3, a7⟩ hs
       refine zd (c_sr (mb rfl (zb ?_)))
       rcases zf hs with ⟨z8, hs⟩ | ⟨z8, hs⟩
       ·refine zg (cb z8) (wp_skip (wp_block (zd (c_sr (ms rfl (mi rfl ?_))))))
        obtain ⟨r4650, X1, hs⟩ := bind_some hs
        refine zy Bd72 rfl (WI (M := (Less d6 d2)) s4634.1 (w64 ((y3330.length : Int) - 1)) (((Frz.os Frz.int)).val a7 Less.sub Less.not) hO.less.fut X1) ?_
        rintro _ X2 ⟨rfl, j5⟩
        obtain ⟨h0, h2, a0, b1, a2, a3, a7, hC⟩ := xt8 j5 h0 h2 a0 b1 a2 a3 a7 hC
        have hO := hO.ext j5
        refine zb ?_
        rcases zf hs with ⟨z9, hs⟩ | ⟨z9, hs⟩
        ·refine zg (cb z9) (c_sr (mi rfl (za _ (ysu rfl rfl) ?_)))
         obtain ⟨A0, n2, X3, H7, j6, H8⟩ := zi X2 [(iv (w64 ((-1) - k4304)))] 3
         refine za (w' := A0) (.slice (some ⟨n2, 0, none⟩) 1 1) (zG rfl (by rw [X3, H7]; kernel_rfl)) ?_
         obtain ⟨h0, h2, a0, b1, a2, a3, a7, hC⟩ := xt8 j6 h0 h2 a0 b1 a2 a3 a7 hC
         have hO := hO.new1 j6 H7 H8.lt
         have m3 := zT (r := ri) (M := d6) (css := [[(iv (w64 ((-1) - k4304)))]]) (fps := [([] : List Nat)]) (xs := ([w64 ((-1) - k4304)] : List Int)) H8 ⟨⟨rfl, rfl⟩, trivial⟩ (Nat.le_of_ble_eq_true rfl) (List.nodup_cons.2 ⟨(fun h => nomatch h), List.nodup_nil⟩)
         have m3 : (RT.os 3 ri).val d6 A0 (.slice (some ⟨n2, 0, none⟩) 1 1) [w64 ((-1) - k4304)] [n2] := m3
         obtain ⟨H9, p6, X4, I0, h4, I1⟩ := zi A0 [] 43
         refine za (w' := H9) (.slice (some ⟨p6, 0, none⟩) 0 0) (zG rfl (by rw [X4, I0]; kernel_rfl)) ?_
         obtain ⟨h0, h2, a0, b1, a2, a3, a7, m3⟩ := xt8 h4 h0 h2 a0 b1 a2 a3 a7 m3
         have hC := hC.ext h4
         have hO := hO.new1 h4 I0 I1.lt
         have A1 := os0 (r := (RT.os 3 ri)) (M := d6) I1
         refine ax rfl (ax rfl (zb (zd (c_sr (ai rfl (zb ?_))))))
         obtain ⟨l1, X5, m4, X6, hO, X7⟩ := xA (Frz.os Frz.int) A1 hO
         have h0 := h0.sub m4
         have h2 := h2.sub m4
         have b1 := b1.sub m4
         have a2 := a2.sub m4
         have a3 := a3.sub m4
         have a7 := a7.sub m4
         have m3 := m3.sub m4
         have hK := hK.trans X6
         obtain ⟨o4729, X8, hs⟩ := bind_some hs
         refine wp_block (Zt (id := 12) (I := fun s4725 a b5 => ∃ (σ : Nat → Value) (e0 : Nat → Prop) (m5 : Option Addr) (m6 : Nat) (m7 : Nat) (r8 : List Nat) (n3 : Option Addr) (n4 : Nat) (n5 : Nat) (r9 : List Nat), a = fr 215 (ovl σ [(1, (iv k)), (3, (.slice pa2 pn2 pc2)), (4, (pq a1 0)), (9, (.slice a4 a6 a5)), (10, (.slice a8 b0 a9)), (11, (.slice c6 c7 c8)), (18, (iv (w64 ((y3330.length : Int) - 1)))), (19, (iv k4304)), (20, (.slice d7 d8 d9)), (21, (.bool s4634.2.1)), (22, (.slice m5 m6 m7)), (23, (.slice n3 n4 n5)), (24, (iv s4725.2.2))]) ∧ Chg [] w b5 ∧ Own (Nw w []) e0 b5 (r8 ++ (r9 ++ (d2 ++ (c9 ++ (c5 ++ (e3 ++ (([a1]) ++ []))))))) ∧ Keeps w M e0 ∧ (RT.rs (RT.pr ri rl)).val e0 b5 (.slice pa0 pn0 pc0) a_.2 ([]) ∧ (RT.rs rl).val e0 b5 (.slice pa2 pn2 pc2) tuples ([]) ∧ BoxV b5 a1 35 [(iv a_.1), (.slice pa0 pn0 pc0)] ∧ (RT.os 43 (RT.os 3 ri)).val e0 b5 (.slice a4 a6 a5) s4634.2.2 e3 ∧ (RT.os 4 RT.bool).val e0 b5 (.slice a8 b0 a9) (List.set s3253.2.2 (Int.toNat s3293) true) c5 ∧ (RT.os 3 ri).val e0 b5 (.slice c6 c7 c8) y3330 c9 ∧ (RT.os 3 ri).val e0 b5 (.slice d7 d8 d9) s4634.1 d2 ∧ (RT.os 3 ri).val e0 b5 (.slice m5 m6 m7) s4725.1 r8 ∧ (RT.os 43 rl).val e0 b5 (.slice n3 n4 n5) s4725.2.1 r9) (J := fun s4725 a b5 => ∃ (σ : Nat → Value) (b8 : Nat → Prop) (p7 : Option Addr) (p8 : Nat) (p9 : Nat) (n6 : List Nat) (s0 : Option Addr) (s1 : Nat) (s2 : Nat) (l2 : List Nat), a = fr 215 (ovl σ [(1, (iv k)), (3, (.slice pa2 pn2 pc2)), (4, (pq a1 0)), (9, (.slice a4 a6 a5)), (10, (.slice a8 b0 a9)), (11, (.slice c6 c7 c8)), (18, (iv (w64 ((y3330.length : Int) - 1)))), (19, (iv k4304)), (20, (.slice d7 d8 d9)), (21, (.bool s4634.2.1)), (22, (.slice p7 p8 p9)), (23, (.slice s0 s1 s2))]) ∧ Chg [] w b5 ∧ Own (Nw w []) b8 b5 (n6 ++ (l2 ++ (d2 ++ (c9 ++ (c5 ++ (e3 ++ (([a1]) ++ []))))))) ∧ Keeps w M b8 ∧ (RT.rs (RT.pr ri rl)).val b8 b5 (.slice pa0 pn0 pc0) a_.2 ([]) ∧ (RT.rs rl).val b8 b5 (.slice pa2 pn2 pc2) tuples ([]) ∧ BoxV b5 a1 35 [(iv a_.1), (.slice pa0 pn0 pc0)] ∧ (RT.os 43 (RT.os 3 ri)).val b8 b5 (.slice a4 a6 a5) s4634.2.2 e3 ∧ (RT.os 4 RT.bool).val b8 b5 (.slice a8 b0 a9) (List.set s3253.2.2 (Int.toNat s3293) true) c5 ∧ (RT.os 3 ri).val b8 b5 (.slice c6 c7 c8) y3330 c9 ∧ (RT.os 3 ri).val b8 b5 (.slice d7 d8 d9) s4634.1 d2 ∧ (RT.os 3 ri).val b8 b5 (.slice p7 p8 p9) s4725.1 n6 ∧ (RT.os 43 rl).val b8 b5 (.slice s0 s1 s2) s4725.2.1 l2) (K := (yl M w)) ?_ FU ([w64 ((-1) - k4304)], [], 0) o4729 _ _ ?_ X8 ?_)
         ·rintro s4725 o4729 a b5 ⟨σ, e0, m5, m6, m7, r8, n3, n4, n5, r9, rfl, hC, hO, hK, h0, h2, a0, b1, a2, a3, a7, n7, j7⟩ hs
          refine zd (zd (yO (I := fun a I2 => ∃ (σ : Nat → Value), a = fr 215 (ovl σ [(1, (iv k)), (3, (.slice pa2 pn2 pc2)), (4, (pq a1 0)), (9, (.slice a4 a6 a5)), (10, (.slice a8 b0 a9)), (11, (.slice c6 c7 c8)), (18, (iv (w64 ((y3330.length : Int) - 1)))), (19, (iv k4304)), (20, (.slice d7 d8 d9)), (21, (.bool s4634.2.1)), (22, (.slice m5 m6 m7)), (23, (.slice n3 n4 n5)), (24, (iv s4725.2.2)), (168, (.bool ((decide (s4725.2.2 < (s4634.1.length : Int))) && (decide ((s4725.1.length : Int) ≤ 60)))))]) ∧ Chg [] b5 I2) ?_ ?_))
          ·have hMid := Chg.refl [] b5
           refine ze (mi rfl (ms rfl (za _ (zn Sl43 (ZV a7) rfl) (za _ (zx rfl rfl) (mb rfl ?_)))))
           rcases Bool.eq_false_or_eq_true ((decide (s4725.2.2 < (s4634.1.length : Int)))) with f3 | f3
           ·skip
            refine py 164 (.slice m5 m6 m7) (cb f3) (zt rfl) (py 164 _ (cb f3) (zn Sl43 (ZV n7) rfl) (py 164 _ (cb f3) (XF rfl rfl) (za (.bool ((decide (s4725.2.2 < (s4634.1.length : Int))) && (decide ((s4725.1.length : Int) ≤ 60)))) (ZT (cb f3) (cb (by rw [f3]; rfl))) (zb ?_))))
            exact ⟨_, fr_m 215 rfl, hMid⟩
           refine pn 164 (cb f3) (pn 164 (cb f3) (pn 164 (cb f3) (za (.bool ((decide (s4725.2.2 < (s4634.1.length : Int))) && (decide ((s4725.1.length : Int) ≤ 60)))) (ZF (cb f3) (cb (by rw [f3]; rfl))) (zb ?_))))
           exact ⟨_, fr_m 215 rfl, hMid⟩
          rintro e1 I2 ⟨σ, rfl, f4⟩
          obtain ⟨h0, h2, a0, b1, a2, a3, a7, n7⟩ := xt8 f4 h0 h2 a0 b1 a2 a3 a7 n7
          obtain ⟨j7, hC, hO⟩ := xt3 f4 j7 hC hO
          rcases zf hs with ⟨A2, hs⟩ | ⟨A2, hs⟩
          ·refine zg (cb A2) (wp_skip (zd (wp_block (c_sr (ms rfl (ms rfl (ms rfl (ms rfl (mi rfl ?_)))))))))
           obtain ⟨x4746, X9, hs⟩ := bind_some hs
           obtain ⟨Y0, a70, a71, a72, Y1, Y2, a73⟩ := zR Sl43 Sz3 a7 X9
           refine za _ (Y1 _ _ _ _ _ _ _ _ _ rfl rfl) (za (iv x4746) (zo rfl ((zz Ag3 Sz3 Y2) _ (Chg.refl _ _))) ?_)
           obtain ⟨x4748, Y3, hs⟩ := bind_some hs
           obtain ⟨Y4, a74, a75, a76, Y5, Y6, a77⟩ := zR Sl43 Sz3 a3 Y3
           refine za _ (Y5 _ _ _ _ _ _ _ _ _ rfl rfl) (za (iv x4748) (zo rfl ((zz Ag3 Sz3 Y6) _ (Chg.refl _ _))) ?_)
           obtain ⟨x4750, Y7, hs⟩ := bind_some hs
           obtain ⟨Y8, a78, a79, a80, Y9, Z0, Z1⟩ := zR Sl25 Sz43 b1 Y7
           have Z2 := Zv (Frz.os Frz.int) Z0 Z1
           refine za _ (Y9 _ _ _ _ _ _ _ _ _ rfl rfl) ?_
           obtain ⟨a81, Z3, hrow4752, s3⟩ := ZG Ag43 Sz43 rfl rfl Z2
           obtain ⟨Z4, Z5, Z6, rfl⟩ := yd s3
           refine za (.slice Z4 Z5 Z6) (zo rfl (Z3 _ (Chg.refl _ _))) ?_
           obtain ⟨y4755, Z7, hs⟩ := bind_some hs
           have hO := hO.fr5.fr1
           obtain ⟨A3, A4, A5, I3, Z8, Z9, f5, a10, j8⟩ := Xn Rw43 Z7 (n7.sub (M' := (Less e0 e3)) Less.sub) s3 (fun g hg => ⟨hO.inM g hg, fun hq => hO.apart g hg (zm hq)⟩)
           have j8 := j8.free (M' := e0) (Free.os Free.int)
           have f6 := zA n7
           refine za (w' := I3) (.slice A3 A4 A5) (zU rfl rfl (Z9 _)) ?_
           have h0 := h0.mt f5 hO f6
           have h2 := h2.mt f5 hO f6
           have a0 := a0.ap f5 hO f6 (zl (zl (zl (zl (zl (zm (List.mem_singleton.2 rfl)))))))
           have b1 := b1.ma f5 hO f6 (fun _ e => (zm (e)))
           have a2 := a2.ma f5 hO f6 (fun _ e => (zl (zl (zl (zl (zm (e)))))))
           have a3 := a3.ma f5 hO f6 (fun _ e => (zl (zl (zl (zm (e))))))
           have a7 := a7.ma f5 hO f6 (fun _ e => (zl (zl (zm (e)))))
           have j7 := j7.ma f5 hO f6 (fun _ e => (zl (zm (e))))
           have s3 := s3.mut f5 (fun g hg => ⟨hO.inM g (f6 g hg), fun e => hO.apart g (f6 g hg) (zm (e))⟩) (fun _ _ h => nomatch h)
           have hC := hC.st f5 hO f6
           have hO := hO.grow f5 a10 (zw j8) j8.fpl
           refine ax rfl (zb (ze (ms rfl (ms rfl (ms rfl (ms rfl (mi rfl ?_)))))))
           obtain ⟨x4757, a11, hs⟩ := bind_some hs
           obtain ⟨a12, a82, a83, a84, a13, A6, a85⟩ := zR Sl43 Sz3 a7 a11
           refine za _ (a13 _ _ _ _ _ _ _ _ _ rfl rfl) (za (iv x4757) (zo rfl ((zz Ag3 Sz3 A6) _ (Chg.refl _ _))) ?_)
           obtain ⟨x4759, a14, hs⟩ := bind_some hs
           obtain ⟨a15, a86, a87, a88, a16, A7, a89⟩ := zR Sl43 Sz3 a3 a14
           refine za _ (a16 _ _ _ _ _ _ _ _ _ rfl rfl) (za (iv x4759) (zo rfl ((zz Ag3 Sz3 A7) _ (Chg.refl _ _))) ?_)
           obtain ⟨x4761, a17, hs⟩ := bind_some hs
           obtain ⟨a18, a19, a20, A8⟩ := zN Sl25 Sz43 h2 a17
           refine za _ (a20 _ _ _ _ _ _ _ _ _ rfl rfl) ?_
           obtain ⟨a90, a21, n8⟩ := Zj Ag43 Sz43 (fun _ => rfl) A8
           obtain ⟨A9, B0, B1, rfl⟩ := yd n8
           refine za (.slice A9 B0 B1) (zo rfl (a21 _ (Chg.refl _ _))) ?_
           obtain ⟨I4, B2, a22, I5, e4, I6⟩ := zi I3 [(.slice A9 B0 B1)] 43
           refine za (w' := I4) (.slice (some ⟨B2, 0, none⟩) 1 1) (zG rfl (by rw [a22, I5]; kernel_rfl)) ?_
           obtain ⟨h0, h2, a0, b1, a2, a3, a7, j7⟩ := xt8 e4 h0 h2 a0 b1 a2 a3 a7 j7
           obtain ⟨j8, n8, A6, A7, A8, hC⟩ := xt6 e4 j8 n8 A6 A7 A8 hC
           have hO := hO.new1 e4 I5 I6.lt
           have B3 := zT (r := rl) (M := e0) (css := [[(.slice A9 B0 B1)]]) (fps := [([] : List Nat)]) (xs := ([x4761] : List (List Int))) I6 ⟨(yq n8), trivial⟩ (Nat.le_of_ble_eq_true rfl) (List.nodup_cons.2 ⟨(fun h => nomatch h), List.nodup_nil⟩)
           have B3 : (RT.os 43 rl).val e0 I4 (.slice (some ⟨B2, 0, none⟩) 1 1) [x4761] [B2] := B3
           obtain ⟨y4768, a23, hs⟩ := bind_some hs
           have hO := hO.fr3
           obtain ⟨B4, B5, B6, a24, a25, a26, f7, a27, B7⟩ := Yc Rw25 a23 j7 B3 hO.inM (fun g hg hq => hO.apart g hq (zm hg))
           have h5 := zA j7
           refine za (w' := a24) (.slice B4 B5 B6) (zU rfl rfl (a26 _)) ?_
           have hO := hO.fr1.fr1
           have h0 := h0.mt f7 hO h5
           have h2 := h2.mt f7 hO h5
           have a0 := a0.ap f7 hO h5 (zl (zl (zl (zl (zl (zl (zm (List.mem_singleton.2 rfl))))))))
           have b1 := b1.ma f7 hO h5 (fun _ e => (zl (zl (zm (e)))))
           have a2 := a2.ma f7 hO h5 (fun _ e => (zl (zl (zl (zl (zl (zm (e))))))))
           have a3 := a3.ma f7 hO h5 (fun _ e => (zl (zl (zl (zl (zm (e)))))))
           have a7 := a7.ma f7 hO h5 (fun _ e => (zl (zl (zl (zm (e))))))
           have j8 := j8.ma f7 hO h5 (fun _ e => (zl (zm (e))))
           have n8 := n8.mt f7 hO h5
           have hC := hC.st f7 hO h5
           have hO := hO.eat f7 a27 (zw B7) B7.fpl
           refine ax rfl (zb (ze (mi rfl (za _ (yad rfl rfl) (ai rfl (zb ?_))))))
           cases hs
           have hO := hO.fr6.fr3.fr6.fr6.fr6.fr5.fr6
           exact ⟨_, e0, A3, A4, A5, Z8, B4, B5, B6, a25, fr_m 215 rfl, hC, hO, hK, h0, h2, a0, b1, a2, a3, a7, j8, B7⟩
          refine zh (cb A2) (wp_exit ?_)
          cases hs
          have hO := hO.fr6.fr6.fr6.fr6.fr6.fr6.fr6
          exact ⟨rfl, _, e0, m5, m6, m7, r8, n3, n4, n5, r9, fr_m 215 rfl, hC, hO, hK, h0, h2, a0, b1, a2, a3, a7, n7, j7⟩
         ·skip
          have hO := hO.fr6.fr6.fr6.fr6.fr6.fr5.fr6
          exact ⟨_, l1, (some ⟨n2, 0, none⟩), 1, 1, ([n2]), (some ⟨p6, 0, none⟩), 0, 0, X5, fr_m 215 rfl, hC, hO, hK, h0, h2, a0, b1, a2, a3, a7, m3, X7⟩
         cases o4729 with
         | nx _ => exact True.intro
         | rt r_ =>
          have hs := zp hs
          intro e1 l3 hK
          cases hs
          exact hK
         | br s4725 =>
          have hs := zq hs
          rintro e1 b5 ⟨σ, b8, p7, p8, p9, n6, s0, s1, s2, l2, rfl, hC, hO, hK, h0, h2, a0, b1, a2, a3, a7, s4, q0⟩
          refine c_sr (ms rfl (za _ (zn Sl43 (ZV s4) rfl) (za _ (XF rfl rfl) (zb ?_))))
          obtain ⟨s4780, a28, hs⟩ := bind_some hs
          refine yO (I := fun a h6 => ∃ (σ : Nat → Value) (q1 : List Nat), a = fr 215 (ovl σ [(1, (iv k)), (3, (.slice pa2 pn2 pc2)), (4, (pq a1 0)), (9, (.slice a4 a6 a5)), (10, (.slice a8 b0 a9)), (11, (.slice c6 c7 c8)), (18, (iv (w64 ((y3330.length : Int) - 1)))), (19, (iv k4304)), (20, (.slice d7 d8 d9)), (21, (.bool s4634.2.1))]) ∧ Chg [] w h6 ∧ Own (Nw w []) b8 h6 (d2 ++ (c9 ++ (c5 ++ (q1 ++ (([a1]) ++ []))))) ∧ (RT.rs (RT.pr ri rl)).val b8 h6 (.slice pa0 pn0 pc0) a_.2 ([]) ∧ (RT.rs rl).val b8 h6 (.slice pa2 pn2 pc2) tuples ([]) ∧ BoxV h6 a1 35 [(iv a_.1), (.slice pa0 pn0 pc0)] ∧ (RT.os 43 (RT.os 3 ri)).val b8 h6 (.slice a4 a6 a5) s4780 q1 ∧ (RT.os 4 RT.bool).val b8 h6 (.slice a8 b0 a9) (List.set s3253.2.2 (Int.toNat s3293) true) c5 ∧ (RT.os 3 ri).val b8 h6 (.slice c6 c7 c8) y3330 c9 ∧ (RT.os 3 ri).val b8 h6 (.slice d7 d8 d9) s4634.1 d2) ?_ ?_
          ·replace hs := a28
           rcases zf hs with ⟨B8, hs⟩ | ⟨B8, hs⟩
           ·refine zg (cb B8) (ze (ms rfl (ms rfl (za _ (ldw rfl Ag35 a0 Sz35) (mi rfl (ms rfl (mi rfl ?_)))))))
            have hO := hO.fr1
            obtain ⟨r4786, a29, hs⟩ := bind_some hs
            refine zy Bd70 rfl (xh (M := (Less b8 l2)) (a_.1, a_.2) k4304 s4725.2.1 k (h0.sub Less.sub) (((Frz.os (Frz.rs Frz.int))).val q0 Less.sub Less.not) hO.less.fut a29) ?_
            rintro _ a91 ⟨a92, a93, a94, s5, rfl, f8, q2, a30⟩
            obtain ⟨h0, h2, a0, b1, a2, a3, a7, s4⟩ := xt8 f8 h0 h2 a0 b1 a2 a3 a7 s4
            obtain ⟨q0, hC⟩ := xt2 f8 q0 hC
            have hO := Own.join0 hO f8 a30
            have hO := hO.perm (R := s5 ++ (l2 ++ (n6 ++ (d2 ++ (c9 ++ (c5 ++ (e3 ++ (([a1]) ++ ([]))))))))) (by simp)
            have q2 := q2.free (M' := b8) (Free.os Free.int)
            refine ms rfl ?_
            have hO := hO.fr2.fr6
            have B9 := hO
            have B9 := B9.fr2
            have I7 := Own.lend (F := (e3 ++ (n6 ++ ([])))) (R := l2 ++ (d2 ++ (c9 ++ (c5 ++ (([a1]) ++ ([])))))) (Own.perm (B9.less) (by simp))
            obtain ⟨r4789, a31, hs⟩ := bind_some hs
            refine zy Bd94 rfl (xi (M := (Less b8 s5)) s4634.2.2 tuples r4786 s4725.1 (b1.sub Less.sub) (h2.sub Less.sub) (((Frz.os Frz.int)).val q2 Less.sub Less.not) (s4.sub Less.sub) I7 I7.fut a31) ?_
            rintro _ a95 ⟨I8, rfl, h7, C0, a32⟩
            have hO := hO.fr2.fr2.fr2.perm (R := (e3 ++ (n6 ++ ([]))) ++ (s5 ++ (l2 ++ (d2 ++ (c9 ++ (c5 ++ (([a1]) ++ ([])))))))) (by simp)
            have h0 := h0.mt h7 hO zj
            have h2 := h2.mt h7 hO zj
            have a0 := a0.ap h7 hO zj (zl (zl (zl (zl (zl (zm (List.mem_singleton.2 rfl)))))))
            have a2 := a2.ma h7 hO zj (fun _ e => (zl (zl (zl (zl (zm (e)))))))
            have a3 := a3.ma h7 hO zj (fun _ e => (zl (zl (zl (zm (e))))))
            have a7 := a7.ma h7 hO zj (fun _ e => (zl (zl (zm (e)))))
            have q0 := q0.ma h7 hO zj (fun _ e => (zl (zm (e))))
            have q2 := q2.ma h7 hO zj (fun _ e => (zm (e)))
            have hC := hC.st h7 hO zj
            have hO := Own.join hO h7 a32
            have hO := hO.perm (R := I8 ++ (s5 ++ (l2 ++ (d2 ++ (c9 ++ (c5 ++ (([a1]) ++ ([])))))))) (by simp)
            have C0 := C0.free (M' := b8) (Free.os (Free.os Free.int))
            refine zb ?_
            cases hs
            have hO := hO.fr1.drop.fr1.drop.fr4.fr1.fr4.fr4.fr4
            exact ⟨_, I8, fr_m 215 rfl, hC, hO, h0, h2, a0, C0, a2, a3, a7⟩
           refine zh (cb B8) (wp_skip ?_)
           cases hs
           have hO := hO.drop.drop.fr4.fr4.fr4.fr4.fr4
           exact ⟨_, e3, fr_m 215 rfl, hC, hO, h0, h2, a0, b1, a2, a3, a7⟩
          rintro e1 h6 ⟨σ, q1, rfl, hC, hO, h0, h2, a0, C1, a2, a3, a7⟩
          refine ze (ms rfl (mi rfl (za _ (yad rfl rfl) ?_)))
          obtain ⟨r4791, a33, hs⟩ := bind_some hs
          refine zy Bd74 rfl (Xm (M := (Less b8 d2)) s4634.1 (w64 ((w64 ((y3330.length : Int) - 1)) + 1)) (((Frz.os Frz.int)).val a7 Less.sub Less.not) hO.less.fut a33) ?_
          rintro _ a96 ⟨s6, s7, s8, I9, rfl, j9, C2, a34⟩
          obtain ⟨h0, h2, a0, C1, a2, a3, a7, hC⟩ := xt8 j9 h0 h2 a0 C1 a2 a3 a7 hC
          have hO := Own.join0 hO j9 a34
          have hO := hO.perm (R := I9 ++ (d2 ++ (c9 ++ (c5 ++ (q1 ++ (([a1]) ++ ([]))))))) (by simp)
          have C2 := C2.free (M' := b8) (Free.os Free.int)
          refine za (.tuple #[(.slice s6 s7 s8), (.bool r4791.2)]) (zt rfl) (za (.slice s6 s7 s8) (zO rfl (by kernel_rfl)) (za (.bool r4791.2) (zO rfl (by kernel_rfl)) (ax rfl (ab rfl (zb ?_)))))
          cases hs
          have hO := hO.fr1.drop.fr4.fr4.fr4.fr4.fr4
          exact ⟨_, b8, s6, s7, s8, I9, q1, fr_m 215 rfl, hC, hO, hK, h0, h2, a0, C1, a2, a3, C2⟩
        refine zh (cb z9) (wp_skip (ze (ms rfl (mi rfl (za _ (yad rfl rfl) ?_)))))
        obtain ⟨r4794, a35, hs⟩ := bind_some hs
        refine zy Bd74 rfl (Xm (M := (Less d6 d2)) s4634.1 (w64 ((w64 ((y3330.length : Int) - 1)) + 1)) (((Frz.os Frz.int)).val a7 Less.sub Less.not) hO.less.fut a35) ?_
        rintro _ a97 ⟨s9, t0, t1, J0, rfl, k0, C3, a36⟩
        obtain ⟨h0, h2, a0, b1, a2, a3, a7, hC⟩ := xt8 k0 h0 h2 a0 b1 a2 a3 a7 hC
        have hO := Own.join0 hO k0 a36
        have hO := hO.perm (R := J0 ++ (d2 ++ (c9 ++ (c5 ++ (e3 ++ (([a1]) ++ ([]))))))) (by simp)
        have C3 := C3.free (M' := d6) (Free.os Free.int)
        refine za (.tuple #[(.slice s9 t0 t1), (.bool r4794.2)]) (zt rfl) (za (.slice s9 t0 t1) (zO rfl (by kernel_rfl)) (za (.bool r4794.2) (zO rfl (by kernel_rfl)) (ax rfl (ab rfl (zb ?_)))))
        cases hs
        have hO := hO.fr1.drop.fr4.fr4.fr4.fr4.fr4
        exact ⟨_, d6, s9, t0, t1, J0, e3, fr_m 215 rfl, hC, hO, hK, h0, h2, a0, b1, a2, a3, C3⟩
       refine zh (cb z8) (wp_exit ?_)
       cases hs
       have hO := hO.fr4.fr4.fr4.fr4.fr4
       exact ⟨rfl, _, d6, d7, d8, d9, d2, e3, fr_m 215 rfl, hC, hO, hK, h0, h2, a0, b1, a2, a3, a7⟩
      ·skip
       have hO := hO.fr4.fr4.fr4.fr4.fr4
       exact ⟨_, f1, z3, z4, z5, W7, n1, fr_m 215 rfl, hC, hO, hK, h0, h2, a0, m2, a2, a3, z6⟩
      cases o4638 with
      | nx _ => exact True.intro
      | rt r_ =>
       have hs := zp hs
       intro e1 l3 hK
       cases hs
       exact hK
      | br s4634 =>
       have hs := zq hs
       rintro e1 d0 ⟨σ, h3, H4, H5, H6, z7, r7, rfl, hC, hO, hK, h0, h2, a0, a37, a2, a3, a98⟩
       refine ze (mi rfl (za _ (yad rfl rfl) (ai rfl (zb ?_))))
       cases hs
       have hO := hO.drop.fr3.fr3.fr3.fr3
       exact ⟨_, h3, r7, zD 215 ⟨rfl, rfl, rfl, rfl, rfl, rfl, rfl, congrArg (Value.int .i64) hw, trivial⟩, hC, hO, hK, h0, h2, a0, a37, a2, a3⟩
     ·skip
      have hO := hO.fr3.fr3.fr3.fr3
      exact ⟨_, b9, g8, fr_m 215 rfl, hC, hO, hK, h0, h2, a0, b6, a2, a3⟩
     cases o4306 with
     | nx _ => exact True.intro
     | rt r_ =>
      have hs := zp hs
      intro e1 l3 hK
      cases hs
      exact hK
     | br s4302 =>
      have hs := zq hs
      rintro e1 c2 ⟨σ, j3, r6, rfl, hC, hO, hK, h0, h2, a0, a38, a2, a3⟩
      cases hs
      have hO := hO.fr3.fr3.fr3.fr3
      exact ⟨_, j3, c6, c7, c8, c9, r6, c5, fr_m 215 rfl, hC, hO, hK, h0, h2, a0, a38, a2, a3⟩
   ·skip
    have hO := hO.fr3.fr3.fr3.fr3
    exact ⟨_, M, (some ⟨b2, 0, none⟩), 0, 0, ([b2]), r1, d3, fr_m 215 rfl, hC, hO, Keeps.refl, h0, h2, a0, R4, b3, b4⟩
   cases o3257 with
   | nx _ => exact True.intro
   | rt r_ =>
    have hs := zp hs
    intro e1 l3 hK
    cases hs
    exact hK
   | br s3253 =>
    have hs := zq hs
    cases hs

theorem Bd52 : zC Try.prog 52 := zI Try.func52 (by kernel_rfl) rfl

theorem Bd37 : zC Try.prog 37 := zI Try.func37 (by kernel_rfl) rfl

theorem Bd53 : zC Try.prog 53 := zI Try.func53 (by kernel_rfl) rfl

def XY (M : Nat → Prop) (w0 : World) (r : (List (List Int)) × Bool) (a : Act) (w : World) : Prop :=
  ∃ (σ : Nat → Value) (ra0 : Option Addr) (rn0 rc0 : Nat) (rf0 : List Nat), a = fr 60 (ovl σ [(6, (.slice ra0 rn0 rc0)), (7, (.bool r.2))]) ∧ Chg [] w0 w ∧ (RT.os 43 (RT.os 3 (RT.int .i64))).val M w (.slice ra0 rn0 rc0) r.1 rf0 ∧ Own (Nw w0 []) (fun _ => True) w (rf0 ++ ([]))
def yw (a_ : Int × (List (Int × (List Int)))) (k : Int) (gens : List (List Int)) : Option ((List (List Int)) × Bool) :=
  ((yY (a_.1, a_.2) k gens).bind fun r8 =>
  (bif (!r8) then some true else some (decide (6 < (gens.length : Int))))).bind fun s4 =>
  (bif s4 then some ([], false) else (Zn (a_.1, a_.2) k gens).bind fun r14 =>
  (bif (!r14.2) then some ([], false) else (Yw (a_.1, a_.2) k gens r14.1).bind fun r20 =>
  (iter (S := Int × (List (List Int))) (R := (List (List Int)) × Bool) (fun s101 =>
  (bif (decide (s101.1 < (s101.2.length : Int))) then (idx s101.2 s101.1).bind fun x110 =>
  (bif ((x110.length : Int) == 0) then some (.rt ([], false)) else (idx s101.2 s101.1).bind fun x117 =>
  (yR x117).bind fun r122 =>
  (idx s101.2 s101.1).bind fun x124 =>
  some (.nx (w64 (s101.1 + 1), List.set s101.2 (Int.toNat s101.1) r122))) else some (.br (s101.1, s101.2)))) FU (0, r20)).bind fun o105 => after o105 (fun r_ => some r_) (fun s101 =>
  some (s101.2, true))))
set_option maxHeartbeats 4000000 in
theorem vA {M : Nat → Prop} {w : World} {pa0 : Option Addr} {pn0 pc0 : Nat} {pa1 : Option Addr} {pn1 pc1 : Nat} (a_ : Int × (List (Int × (List Int)))) (k : Int) (gens : List (List Int)) (h0 : (RT.rs (RT.pr ri rl)).val M w (.slice pa0 pn0 pc0) a_.2 ([])) (h1 : (RT.rs rl).val M w (.slice pa1 pn1 pc1) gens ([])) (hM : ∀ g, w.heap.size ≤ g → M g) {r : (List (List Int)) × Bool} (hs : yw a_ k gens = some r) :
    Gives Try.prog 26 [(.agg #[(iv a_.1), (.slice pa0 pn0 pc0)]), (iv k), (.slice pa1 pn1 pc1)] w (fun v w' => ∃ (ra0 : Option Addr) (rn0 rc0 : Nat) (rf0 : List Nat), v = (.tuple #[(.slice ra0 rn0 rc0), (.bool r.2)]) ∧ Chg [] w w' ∧ (RT.os 43 (RT.os 3 ri)).val M w' (.slice ra0 rn0 rc0) r.1 rf0 ∧ Own (Nw w []) (fun _ => True) w' (rf0 ++ ([]))) := by
 refine zr Try.func26 rfl Try.ntmps26 (Nat.le_of_ble_eq_true rfl) ?_
 have hO := Own.start (N := Nw w []) hM Nw.fut
 have hC := Chg.refl [] w
 unfold yw at hs
 refine wp_k (K := (XY M w r)) (by rintro _ _ ⟨σ, ra0, rn0, rc0, rf0, rfl, hrest⟩; exact wE Try.results26 (zB rfl) (zB rfl) ⟨ra0, rn0, rc0, rf0, rfl, hrest⟩) (c_sr ?_)
 obtain ⟨c7, c8, f9, e2, c1, a1⟩ := zi w [(iv a_.1), (.slice pa0 pn0 pc0)] 35
 refine za (w' := c7) (pq c8 0) (ZW rfl (by rw [f9, e2]; kernel_rfl)) ?_
 obtain ⟨h0, h1, hC⟩ := xt3 c1 h0 h1 hC
 have hO := hO.new1 c1 e2 a1.lt
 refine ax rfl (ab rfl (zb (zd (zd ?_))))
 obtain ⟨s4, g0, hs⟩ := bind_some hs
 refine yO (I := fun a a0 => ∃ (σ : Nat → Value), a = fr 60 (ovl σ [(1, (iv k)), (2, (.slice pa1 pn1 pc1)), (3, (pq c8 0)), (6, (.slice none 0 0)), (7, (.bool false)), (21, (.bool s4))]) ∧ Chg [] c7 a0) ?_ ?_
 ·replace hs := g0
  have hMid := Chg.refl [] c7
  refine ze (za _ (ldw rfl Ag35 a1 Sz35) (mi rfl (ms rfl ?_)))
  obtain ⟨r8, g1, hs⟩ := bind_some hs
  refine zy Bd52 rfl (VN (M := M) (a_.1, a_.2) k gens h0 h1 hO.fut g1) ?_
  rintro _ k7 ⟨rfl, b1⟩
  obtain ⟨h0, h1, a1, hMid, hC, hO⟩ := xt6 b1 h0 h1 a1 hMid hC hO
  refine za _ (ZQ rfl) (mb rfl ?_)
  rcases zf hs with ⟨a8, hs⟩ | ⟨a8, hs⟩
  ·skip
   refine pn 17 (cb a8) (pn 17 (cb a8) (pn 17 (cb a8) (za _ (ptb (cb a8) rfl) (zb ?_))))
   cases hs
   exact ⟨_, fr_m 60 rfl, hMid⟩
  refine py 17 (.slice pa1 pn1 pc1) (cb a8) (zt rfl) (py 17 _ (cb a8) (zn Sl25 (zu h1) rfl) (py 17 _ (cb a8) (YJ rfl rfl) (za _ (pfb (cb a8) rfl) (zb ?_))))
  cases hs
  exact ⟨_, fr_m 60 rfl, hMid⟩
 rintro e3 a0 ⟨σ, rfl, b7⟩
 obtain ⟨h0, h1, a1, hC, hO⟩ := xt5 b7 h0 h1 a1 hC hO
 rcases zf hs with ⟨c9, hs⟩ | ⟨c9, hs⟩
 ·refine zg (cb c9) (c_sr ?_)
  obtain ⟨e4, b2, g2, e5, b8, e6⟩ := zi a0 [] 43
  refine za (w' := e4) (.slice (some ⟨b2, 0, none⟩) 0 0) (zG rfl (by rw [g2, e5]; kernel_rfl)) ?_
  obtain ⟨h0, h1, a1, hC⟩ := xt4 b8 h0 h1 a1 hC
  have hO := hO.new1 b8 e5 e6.lt
  have d0 := os0 (r := (RT.os 3 ri)) (M := M) e6
  refine ax rfl (ab rfl (zb (wp_ret ?_)))
  cases hs
  have hO := hO.fr1.drop
  exact ⟨_, (some ⟨b2, 0, none⟩), 0, 0, ([b2]), fr_m 60 rfl, hC, d0, hO.top⟩
 refine zh (cb c9) (wp_skip (c_sr (za _ (ldw rfl Ag35 a1 Sz35) (mi rfl (ms rfl ?_)))))
 obtain ⟨r14, g3, hs⟩ := bind_some hs
 refine zy Bd37 rfl (Vu (M := M) (a_.1, a_.2) k gens h0 h1 hO.fut g3) ?_
 rintro _ a2 ⟨c2, c3, c4, rfl, b9, c0⟩
 have hK := (show Keeps w M (Past M a0 a2) from Keeps.past hC.size)
 obtain ⟨h0, h1, a1, hC⟩ := xt4 b9 h0 h1 a1 hC
 have hO := hO.past b9
 have h0 := h0.sub (M' := (Past M a0 a2)) (fun g hg => .inl hg.1)
 have h1 := h1.sub (M' := (Past M a0 a2)) (fun g hg => .inl hg.1)
 refine za (.tuple #[(.slice c2 c3 c4), (.bool r14.2)]) (zt rfl) (za (.slice c2 c3 c4) (zO rfl (by kernel_rfl)) (za (.bool r14.2) (zO rfl (by kernel_rfl)) (ax rfl (ab rfl (zb (zd (c_sr (mb rfl (za _ (ZQ rfl) (zb ?_))))))))))
 rcases zf hs with ⟨d1, hs⟩ | ⟨d1, hs⟩
 ·refine zg (cb d1) (c_sr ?_)
  obtain ⟨e7, b3, g4, e8, b4, e9⟩ := zi a2 [] 43
  refine za (w' := e7) (.slice (some ⟨b3, 0, none⟩) 0 0) (zG rfl (by rw [g4, e8]; kernel_rfl)) ?_
  obtain ⟨h0, h1, a1, c0, hC⟩ := xt5 b4 h0 h1 a1 c0 hC
  have hO := hO.new1 b4 e8 e9.lt
  have d2 := os0 (r := (RT.os 3 ri)) (M := (Past M a0 a2)) e9
  refine ax rfl (ab rfl (zb (wp_ret ?_)))
  cases hs
  have hO := hO.fr1.drop
  exact ⟨_, (some ⟨b3, 0, none⟩), 0, 0, ([b3]), fr_m 60 rfl, hC, (d2.free (Free.os (Free.os Free.int))), hO.top⟩
 refine zh (cb d1) (wp_skip (c_sr (za _ (ldw rfl Ag35 a1 Sz35) (mi rfl (ms rfl (ms rfl ?_))))))
 obtain ⟨r20, g5, hs⟩ := bind_some hs
 refine zy Bd53 rfl (Va (M := (Past M a0 a2)) (a_.1, a_.2) k gens r14.1 h0 h1 c0 hO.fut g5) ?_
 rintro _ k8 ⟨a3, a4, a5, f0, rfl, b5, g6, g7⟩
 obtain ⟨h0, h1, a1, c0, hC⟩ := xt5 b5 h0 h1 a1 c0 hC
 have hO := Own.join0 hO b5 g7
 have hO := hO.perm (R := f0 ++ (([c8]) ++ ([]))) (by simp)
 refine ax rfl (zb (zd (c_sr (ai rfl (zb ?_)))))
 have hO := hO.fr1.drop
 obtain ⟨o105, g8, hs⟩ := bind_some hs
 refine wp_block (Zt (id := 0) (I := fun s101 a a7 => ∃ (σ : Nat → Value) (a9 : List Nat), a = fr 60 (ovl σ [(10, (.slice a3 a4 a5)), (11, (iv s101.1))]) ∧ Chg [] w a7 ∧ Own (Nw w []) (Past M a0 a2) a7 (a9 ++ []) ∧ (RT.os 43 (RT.os 3 ri)).val (Past M a0 a2) a7 (.slice a3 a4 a5) s101.2 a9) (J := fun s101 a a7 => ∃ (σ : Nat → Value) (c5 : List Nat), a = fr 60 (ovl σ [(10, (.slice a3 a4 a5))]) ∧ Chg [] w a7 ∧ Own (Nw w []) (Past M a0 a2) a7 (c5 ++ []) ∧ (RT.os 43 (RT.os 3 ri)).val (Past M a0 a2) a7 (.slice a3 a4 a5) s101.2 c5) (K := (XY M w)) ?_ FU (0, r20) o105 _ _ ?_ g8 ?_)
 ·rintro s101 o105 a a7 ⟨σ, a9, rfl, hC, hO, a6⟩ hs
  refine zd (c_sr (mi rfl (ms rfl (za _ (zn Sl25 (ZV a6) rfl) (za _ (zx rfl rfl) (zb ?_))))))
  rcases zf hs with ⟨d3, hs⟩ | ⟨d3, hs⟩
  ·refine zg (cb d3) (wp_skip (zd (wp_block (zd (c_sr (ms rfl (mi rfl ?_)))))))
   obtain ⟨x110, g9, hs⟩ := bind_some hs
   obtain ⟨h2, k9, l0, l1, h3, h4, h5⟩ := zR Sl25 Sz43 a6 g9
   have h6 := Zv (Frz.os Frz.int) h4 h5
   refine za _ (h3 _ _ _ _ _ _ _ _ _ rfl rfl) ?_
   obtain ⟨l2, h7, hrow112, f1⟩ := ZG Ag43 Sz43 rfl rfl h6
   obtain ⟨h8, h9, i0, rfl⟩ := yd f1
   refine za (.slice h8 h9 i0) (zo rfl (h7 _ (Chg.refl _ _))) (za _ (zn Sl43 (zu f1) rfl) (za (.bool ((x110.length : Int) == 0)) (xz rfl rfl) (zb ?_)))
   rcases zf hs with ⟨d4, hs⟩ | ⟨d4, hs⟩
   ·refine zg (cb d4) (c_sr ?_)
    obtain ⟨f2, b6, i1, f3, d5, f4⟩ := zi a7 [] 43
    refine za (w' := f2) (.slice (some ⟨b6, 0, none⟩) 0 0) (zG rfl (by rw [i1, f3]; kernel_rfl)) ?_
    obtain ⟨a6, hC⟩ := xt2 d5 a6 hC
    have hO := hO.new1 d5 f3 f4.lt
    have d6 := os0 (r := (RT.os 3 ri)) (M := (Past M a0 a2)) f4
    refine ax rfl (ab rfl (zb (wp_ret ?_)))
    cases hs
    have hO := hO.fr1.drop
    exact ⟨_, (some ⟨b6, 0, none⟩), 0, 0, ([b6]), fr_m 60 rfl, hC, (d6.free (Free.os (Free.os Free.int))), hO.top⟩
   refine zh (cb d4) (wp_skip (ze (ms rfl (mi rfl (ms rfl (mi rfl ?_))))))
   obtain ⟨x117, i2, hs⟩ := bind_some hs
   obtain ⟨i3, l3, l4, l5, i4, d7, i5⟩ := zR Sl25 Sz43 a6 i2
   have d8 := Zv (Frz.os Frz.int) d7 i5
   refine za _ (i4 _ _ _ _ _ _ _ _ _ rfl rfl) ?_
   obtain ⟨l6, i6, hrow119, c6⟩ := ZG Ag43 Sz43 rfl rfl d8
   obtain ⟨i7, i9, j0, rfl⟩ := yd c6
   refine za (.slice i7 i9 j0) (zo rfl (i6 _ (Chg.refl _ _))) ?_
   obtain ⟨r122, j1, hs⟩ := bind_some hs
   refine zy Bd54 rfl (XT (M := (Less (Past M a0 a2) a9)) x117 c6 hO.less.fut j1) ?_
   rintro _ l7 ⟨j2, j3, j4, d9, rfl, b0, e0, j5⟩
   obtain ⟨a6, c6, hrow119, d7, d8, hC⟩ := xt6 b0 a6 c6 hrow119 d7 d8 hC
   have hO := Own.join0 hO b0 j5
   have hO := hO.perm (R := d9 ++ (a9 ++ ([]))) (by simp)
   have e0 := e0.free (M' := (Past M a0 a2)) (Free.os Free.int)
   obtain ⟨x124, j6, hs⟩ := bind_some hs
   obtain ⟨f5, l8, f6, j7, j8, j9, k0⟩ := zR Sl25 Sz43 a6 j6
   have l9 := Zv (Frz.os Frz.int) j9 k0
   refine za _ (j8 _ _ _ _ _ _ _ _ _ rfl rfl) ?_
   have hO := hO.fr1
   obtain ⟨k1, k2, k3, f7, k4, e1⟩ := yn (P := Try.prog) (c' := [(.slice j2 j3 j4)]) f6 a6 j7 (fun g hg => hO.inM g (zA a6 g (by simpa using hg))) (Zs e0) (hO.drop.perm (R := d9 ++ ([])) (by simp)).nd (fun g hg hq => hO.apart g hq (by simp only [List.mem_append, List.not_mem_nil, false_or, or_false] at hg ⊢; simp [hg])) (fun _ h => .inl h)
   have k5 : ∀ q ∈ [f5], q ∈ a9 := fun q hq => zA a6 q (by rw [f6]; exact hq)
   refine Zk (w' := k1) (zV rfl rfl (k3 _ _ rfl Sz43)) ?_
   have hO := hO.fr1.fr1
   have hC := hC.st f7 hO k5
   have hO := (hO.perm (R := a9 ++ (d9 ++ ([]))) (by simp)).eat f7 (fun q hq => (k4 q hq).elim .inl (fun h => .inr (.inl h))) (zw e1) e1.fpl
   refine zb (ze (mi rfl (za _ (yad rfl rfl) (ai rfl (zb ?_)))))
   cases hs
   exact ⟨_, k2, fr_m 60 rfl, hC, hO, e1⟩
  refine zh (cb d3) (wp_exit ?_)
  cases hs
  exact ⟨rfl, _, a9, fr_m 60 rfl, hC, hO, a6⟩
 ·skip
  exact ⟨_, f0, fr_m 60 rfl, hC, hO, g6⟩
 cases o105 with
 | nx _ => exact True.intro
 | rt r_ =>
  have hs := zp hs
  intro e3 f8 hK
  cases hs
  exact hK
 | br s101 =>
  have hs := zq hs
  rintro e3 a7 ⟨σ, c5, rfl, hC, hO, k6⟩
  refine c_sr (ms rfl (ax rfl (ab rfl (zb (wp_ret ?_)))))
  cases hs
  exact ⟨_, a3, a4, a5, c5, fr_m 60 rfl, hC, (k6.free (Free.os (Free.os Free.int))), hO.top⟩

theorem Bd80 : zC Try.prog 80 := zI Try.func80 (by kernel_rfl) rfl

theorem Bd82 : zC Try.prog 82 := zI Try.func82 (by kernel_rfl) rfl

theorem Bd26 : zC Try.prog 26 := zI Try.func26 (by kernel_rfl) rfl

def vH (M : Nat → Prop) (w0 : World) (r : (List (List Int)) × Bool) (a : Act) (w : World) : Prop :=
  ∃ (σ : Nat → Value) (ra0 : Option Addr) (rn0 rc0 : Nat) (rf0 : List Nat), a = fr 22 (ovl σ [(4, (.slice ra0 rn0 rc0)), (5, (.bool r.2))]) ∧ Chg [] w0 w ∧ (RT.os 43 (RT.os 3 (RT.int .i64))).val M w (.slice ra0 rn0 rc0) r.1 rf0 ∧ Own (Nw w0 []) (fun _ => True) w (rf0 ++ ([]))
def yv (a_ : Int × (List (Int × (List Int)))) (k : Int) : Option ((List (List Int)) × Bool) :=
  (Zb (a_.1, a_.2) k).bind fun r4 =>
  (bif (!r4) then some ([], false) else (ZY a_.1 k).bind fun r10 =>
  (Yq (a_.1, a_.2) k).bind fun r12 =>
  (yw (a_.1, a_.2) r10 r12).bind fun r15 =>
  some (r15.1, r15.2))
set_option maxHeartbeats 4000000 in
theorem vE {M : Nat → Prop} {w : World} {pa0 : Option Addr} {pn0 pc0 : Nat} (a_ : Int × (List (Int × (List Int)))) (k : Int) (h0 : (RT.rs (RT.pr ri rl)).val M w (.slice pa0 pn0 pc0) a_.2 ([])) (hM : ∀ g, w.heap.size ≤ g → M g) {r : (List (List Int)) × Bool} (hs : yv a_ k = some r) :
    Gives Try.prog 62 [(.agg #[(iv a_.1), (.slice pa0 pn0 pc0)]), (iv k)] w (fun v w' => ∃ (ra0 : Option Addr) (rn0 rc0 : Nat) (rf0 : List Nat), v = (.tuple #[(.slice ra0 rn0 rc0), (.bool r.2)]) ∧ Chg [] w w' ∧ (RT.os 43 (RT.os 3 ri)).val M w' (.slice ra0 rn0 rc0) r.1 rf0 ∧ Own (Nw w []) (fun _ => True) w' (rf0 ++ ([]))) := by
 refine zr Try.func62 rfl Try.ntmps62 (Nat.le_of_ble_eq_true rfl) ?_
 have hO := Own.start (N := Nw w []) hM Nw.fut
 have hC := Chg.refl [] w
 unfold yv at hs
 refine wp_k (K := (vH M w r)) (by rintro _ _ ⟨σ, ra0, rn0, rc0, rf0, rfl, hrest⟩; exact wE Try.results62 (zB rfl) (zB rfl) ⟨ra0, rn0, rc0, rf0, rfl, hrest⟩) (c_sr ?_)
 obtain ⟨c6, a6, c7, c0, b5, a0⟩ := zi w [(iv a_.1), (.slice pa0 pn0 pc0)] 35
 refine za (w' := c6) (pq a6 0) (ZW rfl (by rw [c7, c0]; kernel_rfl)) ?_
 obtain ⟨h0, hC⟩ := xt2 b5 h0 hC
 have hO := hO.new1 b5 c0 a0.lt
 refine ax rfl (ab rfl (zb (zd (c_sr (za _ (ldw rfl Ag35 a0 Sz35) (mi rfl ?_))))))
 obtain ⟨r4, c8, hs⟩ := bind_some hs
 refine zy Bd80 rfl (Vc (M := M) (a_.1, a_.2) k h0 hO.fut c8) ?_
 rintro _ b6 ⟨rfl, a7⟩
 obtain ⟨h0, a0, hC, hO⟩ := xt4 a7 h0 a0 hC hO
 refine za _ (ZQ rfl) (zb ?_)
 rcases zf hs with ⟨b7, hs⟩ | ⟨b7, hs⟩
 ·refine zg (cb b7) (c_sr ?_)
  obtain ⟨c1, a4, c9, c2, a8, c3⟩ := zi b6 [] 43
  refine za (w' := c1) (.slice (some ⟨a4, 0, none⟩) 0 0) (zG rfl (by rw [c9, c2]; kernel_rfl)) ?_
  obtain ⟨h0, a0, hC⟩ := xt3 a8 h0 a0 hC
  have hO := hO.new1 a8 c2 c3.lt
  have b8 := os0 (r := (RT.os 3 ri)) (M := M) c3
  refine ax rfl (ab rfl (zb (wp_ret ?_)))
  cases hs
  have hO := hO.fr1.drop
  exact ⟨_, (some ⟨a4, 0, none⟩), 0, 0, ([a4]), fr_m 22 rfl, hC, b8, hO.top⟩
 refine zh (cb b7) (wp_skip (zd (Ze [] Mx rfl ?_)))
 have a5 := Chg.drew b6
 generalize World.drew b6 = d0 at a5 ⊢
 obtain ⟨h0, a0, hC, hO⟩ := xt4 a5 h0 a0 hC hO
 have hS := Chg.refl [] d0
 refine xl 0 rfl (ldxw rfl Ag35 a0 Sz35) hS (xq 1 (pq a6 0) rfl (zk rfl Yo) hS (xl 2 rfl (ldx rfl Ag3 Sz3 a0 rfl) hS (xmi 3 rfl rfl hS (xl 5 rfl (ldxw rfl Ag35 a0 Sz35) hS (xmi 6 rfl rfl hS (zP (i := 4) (by kernel_rfl) ?_))))))
 obtain ⟨r10, d1, hs⟩ := bind_some hs
 refine zZ (b := false) rfl  Bd81 rfl (YA (M := M) a_.1 k  hO.fut d1) rfl (by rintro _ _ _ ⟨rfl, a2⟩; exact hS.ext a2) ?_
 rintro _ d8 ⟨rfl, a2⟩
 obtain ⟨h0, a0, hC, hO, hS⟩ := xt5 a2 h0 a0 hC hO hS
 refine zP (i := 7) (by kernel_rfl) ?_
 obtain ⟨r12, d2, hs⟩ := bind_some hs
 refine zZ (b := false) rfl  Bd82 rfl (Vo (M := M) (a_.1, a_.2) k h0 hO.fut d2) rfl (by rintro _ _ _ ⟨d3, d4, d5, a9, rfl, a3, b0, c4⟩; exact hS.ext a3) ?_
 rintro _ d9 ⟨d3, d4, d5, a9, rfl, a3, b0, c4⟩
 obtain ⟨h0, a0, hC⟩ := xt3 a3 h0 a0 hC
 have hO := Own.join0 hO a3 c4
 have hO := hO.perm (R := a9 ++ (([a6]) ++ ([]))) (by simp)
 have hS := hS.ext a3
 refine zP (i := 8) (by kernel_rfl) ?_
 obtain ⟨r15, d6, hs⟩ := bind_some hs
 refine zZ (b := false) rfl  Bd26 rfl (vA (M := (Less M a9)) (a_.1, a_.2) r10 r12 (h0.sub Less.sub) (((Frz.os (Frz.os Frz.int))).val b0 Less.sub Less.not) hO.less.fut d6) rfl (by rintro _ _ _ ⟨b1, b2, b3, b9, rfl, a1, b4, c5⟩; exact hS.ext a1) ?_
 rintro _ e0 ⟨b1, b2, b3, b9, rfl, a1, b4, c5⟩
 obtain ⟨h0, a0, b0, hC⟩ := xt4 a1 h0 a0 b0 hC
 have hO := Own.join0 hO a1 c5
 have hO := hO.perm (R := b9 ++ (a9 ++ (([a6]) ++ ([])))) (by simp)
 have b4 := b4.free (M' := M) (Free.os (Free.os Free.int))
 have hS := hS.ext a1
 refine xq 9 (.slice b1 b2 b3) rfl (zO rfl (by kernel_rfl)) hS (xq 10 (.bool r15.2) rfl (zO rfl (by kernel_rfl)) hS (xq 11 (.slice b1 b2 b3) rfl (zE rfl) hS (xq 12 (.bool r15.2) rfl (zE rfl) hS (Zc (by kernel_rfl) ?_))))
 clear hS
 refine wp_ret ?_
 cases hs
 have hO := hO.fr1.drop.fr1.drop
 exact ⟨_, b1, b2, b3, b9, fr_m 22 rfl, hC, b4, hO.top⟩

theorem Bd62 : zC Try.prog 62 := zI Try.func62 (by kernel_rfl) rfl

def WR (M : Nat → Prop) (w0 : World) (r : (List (List Int)) × Bool) (a : Act) (w : World) : Prop :=
  ∃ (σ : Nat → Value) (ra0 : Option Addr) (rn0 rc0 : Nat) (rf0 : List Nat), a = fr 11 (ovl σ [(4, (.slice ra0 rn0 rc0)), (5, (.bool r.2))]) ∧ Chg [] w0 w ∧ (RT.os 43 (RT.os 3 (RT.int .i64))).val M w (.slice ra0 rn0 rc0) r.1 rf0 ∧ Own (Nw w0 []) (fun _ => True) w (rf0 ++ ([]))
def Ya (a_ : Int × (List (Int × (List Int)))) (k : Int) : Option ((List (List Int)) × Bool) :=
  (yv (a_.1, a_.2) k).bind fun r4 =>
  some (r4.1, r4.2)
set_option maxHeartbeats 4000000 in
theorem vj {M : Nat → Prop} {w : World} {pa0 : Option Addr} {pn0 pc0 : Nat} (a_ : Int × (List (Int × (List Int)))) (k : Int) (h0 : (RT.rs (RT.pr ri rl)).val M w (.slice pa0 pn0 pc0) a_.2 ([])) (hM : ∀ g, w.heap.size ≤ g → M g) {r : (List (List Int)) × Bool} (hs : Ya a_ k = some r) :
    Gives Try.prog 32 [(.agg #[(iv a_.1), (.slice pa0 pn0 pc0)]), (iv k)] w (fun v w' => ∃ (ra0 : Option Addr) (rn0 rc0 : Nat) (rf0 : List Nat), v = (.tuple #[(.slice ra0 rn0 rc0), (.bool r.2)]) ∧ Chg [] w w' ∧ (RT.os 43 (RT.os 3 ri)).val M w' (.slice ra0 rn0 rc0) r.1 rf0 ∧ Own (Nw w []) (fun _ => True) w' (rf0 ++ ([]))) := by
 refine zr Try.func32 rfl Try.ntmps32 (Nat.le_of_ble_eq_true rfl) ?_
 have hO := Own.start (N := Nw w []) hM Nw.fut
 have hC := Chg.refl [] w
 unfold Ya at hs
 refine wp_k (K := (WR M w r)) (by rintro _ _ ⟨σ, ra0, rn0, rc0, rf0, rfl, hrest⟩; exact wE Try.results32 (zB rfl) (zB rfl) ⟨ra0, rn0, rc0, rf0, rfl, hrest⟩) (c_sr ?_)
 obtain ⟨a9, a6, b0, a7, a2, a0⟩ := zi w [(iv a_.1), (.slice pa0 pn0 pc0)] 35
 refine za (w' := a9) (pq a6 0) (ZW rfl (by rw [b0, a7]; kernel_rfl)) ?_
 obtain ⟨h0, hC⟩ := xt2 a2 h0 hC
 have hO := hO.new1 a2 a7 a0.lt
 refine ax rfl (ab rfl (zb (c_sr (za _ (ldw rfl Ag35 a0 Sz35) (mi rfl ?_)))))
 obtain ⟨r4, b1, hs⟩ := bind_some hs
 refine zy Bd62 rfl (vE (M := M) (a_.1, a_.2) k h0 hO.fut b1) ?_
 rintro _ b5 ⟨a3, a4, a5, a8, rfl, a1, b2, b3⟩
 obtain ⟨h0, a0, hC⟩ := xt3 a1 h0 a0 hC
 have hO := Own.join0 hO a1 b3
 have hO := hO.perm (R := a8 ++ (([a6]) ++ ([]))) (by simp)
 refine za (.slice a3 a4 a5) (zO rfl (by kernel_rfl)) (za (.bool r4.2) (zO rfl (by kernel_rfl)) (ax rfl (ab rfl (zb (wp_ret ?_)))))
 cases hs
 have hO := hO.fr1.drop
 exact ⟨_, a3, a4, a5, a8, fr_m 11 rfl, hC, b2, hO.top⟩

def Ww (M : Nat → Prop) (w0 : World) (r : Int) (a : Act) (w : World) : Prop :=
  ∃ (σ : Nat → Value) , a = fr 14 (ovl σ [(4, (.int .i64 r))]) ∧ Chg [] w0 w
def ZX (n : Int) (k : Int) : Option (Int) :=
  (iter (S := Int × Int) (R := Int) (fun s2 =>
  (bif (decide (0 < s2.1)) then some (.nx (w64 (s2.1 - 1), w64 (s2.2 * n))) else some (.br (s2.1, s2.2)))) FU (k, 1)).bind fun o6 => after o6 (fun r_ => some r_) (fun s2 =>
  some s2.2)
set_option maxHeartbeats 4000000 in
theorem xL {M : Nat → Prop} {w : World}  (n : Int) (k : Int)  (hM : ∀ g, w.heap.size ≤ g → M g) {r : Int} (hs : ZX n k = some r) :
    Gives Try.prog 88 [(iv n), (iv k)] w (fun v w' => v = (iv r) ∧ Chg [] w w') := by
 refine zr Try.func88 rfl Try.ntmps88 (Nat.le_of_ble_eq_true rfl) ?_
 have hO := Own.start (N := Nw w []) hM Nw.fut
 have hC := Chg.refl [] w
 unfold ZX at hs
 refine wp_k (K := (Ww M w r)) (by rintro _ _ ⟨σ, rfl, hrest⟩; exact Zh Try.results88 (zB rfl) ⟨rfl, hrest⟩) (c_sr (ai rfl (zb (c_sr (ai rfl (zb (zd ?_)))))))
 obtain ⟨o6, a3, hs⟩ := bind_some hs
 refine wp_block (Zt (id := 0) (I := fun s2 a a0 => ∃ (σ : Nat → Value), a = fr 14 (ovl σ [(0, (iv n)), (1, (iv s2.1)), (5, (iv s2.2))]) ∧ Chg [] w a0 ∧ Own (Nw w []) M a0 ([])) (J := fun s2 a a0 => ∃ (σ : Nat → Value), a = fr 14 (ovl σ [(5, (iv s2.2))]) ∧ Chg [] w a0 ∧ Own (Nw w []) M a0 ([])) (K := (Ww M w)) ?_ FU (k, 1) o6 _ _ ?_ a3 ?_)
 ·rintro s2 o6 a a0 ⟨σ, rfl, hC, hO⟩ hs
  refine zd (c_sr (mi rfl (za _ (YJ rfl rfl) (zb ?_))))
  rcases zf hs with ⟨a1, hs⟩ | ⟨a1, hs⟩
  ·refine zg (cb a1) (wp_skip (zd (wp_block (ze (mi rfl (mi rfl (za _ (ymu rfl rfl) (ai rfl (zb (ze (mi rfl (za _ (ysu rfl rfl) (ai rfl (zb ?_))))))))))))))
   cases hs
   exact ⟨_, fr_m 14 rfl, hC, hO⟩
  refine zh (cb a1) (wp_exit ?_)
  cases hs
  exact ⟨rfl, _, fr_m 14 rfl, hC, hO⟩
 ·skip
  exact ⟨_, fr_m 14 rfl, hC, hO⟩
 cases o6 with
 | nx _ => exact True.intro
 | rt r_ =>
  have hs := zp hs
  intro a4 a2 hK
  cases hs
  exact hK
 | br s2 =>
  have hs := zq hs
  rintro a4 a0 ⟨σ, rfl, hC, hO⟩
  refine c_sr (mi rfl (ai rfl (zb (wp_ret ?_))))
  cases hs
  exact ⟨_, fr_m 14 rfl, hC⟩

def wM (M : Nat → Prop) (w0 : World) (r : Bool) (a : Act) (w : World) : Prop :=
  ∃ (σ : Nat → Value) , a = fr 21 (ovl σ [(4, (.bool r))]) ∧ Chg [] w0 w
def Ym (list : List Int) (n : Int) : Option (Bool) :=
  (forR (S := Unit) (R := Bool) (fun _ x8 s5 =>
  (bif (decide (x8 < 0)) then some (.rt false) else (bif (decide (n ≤ x8)) then some (.rt false) else some (.nx ())))) 0 list ()).bind fun o9 => after o9 (fun r_ => some r_) (fun s5 =>
  some true)
set_option maxHeartbeats 4000000 in
theorem VS {M : Nat → Prop} {w : World} {pa0 : Option Addr} {pn0 pc0 : Nat} (list : List Int) (n : Int) (h0 : rl.val M w (.slice pa0 pn0 pc0) list ([])) (hM : ∀ g, w.heap.size ≤ g → M g) {r : Bool} (hs : Ym list n = some r) :
    Gives Try.prog 77 [(.slice pa0 pn0 pc0), (iv n)] w (fun v w' => v = (.bool r) ∧ Chg [] w w') := by
 refine zr Try.func77 rfl Try.ntmps77 (Nat.le_of_ble_eq_true rfl) ?_
 have hO := Own.start (N := Nw w []) hM Nw.fut
 have hC := Chg.refl [] w
 unfold Ym at hs
 refine wp_k (K := (wM M w r)) (by rintro _ _ ⟨σ, rfl, hrest⟩; exact Zh Try.results77 (zB rfl) ⟨rfl, hrest⟩) (c_sr (ab rfl (zb (zd (c_sr (ms rfl (za _ (zn Sl43 (zu h0) rfl) (mi rfl (zb ?_)))))))))
 obtain ⟨o9, a5, hs⟩ := bind_some hs
 refine wp_block (YM (id := 0) (I := fun i_ xs_ s5 a a0 => ∃ a1 : Nat, i_ = (a1 : Int) ∧ List.drop a1 list = xs_ ∧ (∃ (σ : Nat → Value), a = fr 21 (ovl σ [(1, (iv n)), (7, (.slice pa0 pn0 pc0)), (8, (iv (list.length : Int))), (9, (iv (a1 : Int)))]) ∧ Chg [] w a0 ∧ Own (Nw w []) M a0 ([]) ∧ rl.val M a0 (.slice pa0 pn0 pc0) list ([]))) (J := fun s5 a a0 => ∃ (σ : Nat → Value), a = fr 21 (ovl σ []) ∧ Chg [] w a0 ∧ Own (Nw w []) M a0 ([]) ∧ rl.val M a0 (.slice pa0 pn0 pc0) list ([])) (K := (wM M w)) ?_ ?_ list 0 () o9 _ _ ?_ a5 ?_)
 ·rintro _ s5 a a0 ⟨a1, rfl, hd, σ, rfl, hC, hO, h0⟩
  have hlt := yb hd
  refine c_sr (za _ (zx rfl rfl) (zb (zd (zh (cb (decide_eq_false hlt)) (wp_exit ?_)))))
  exact ⟨rfl, _, zD 21 trivial, hC, hO, h0⟩
 ·rintro _ x8 xs_ s5 o9 a a0 ⟨a1, rfl, hd, σ, rfl, hC, hO, h0⟩ hs
  have hlt := ZJ hd
  have a6 := Zz hd
  refine c_sr (za _ (zx rfl rfl) (zb (zd (zg (cb (decide_eq_true hlt)) (wp_skip (zd (wp_block (c_sr ?_))))))))
  obtain ⟨a7, a8, a9, b0⟩ := zN Sl43 Sz3 h0 a6
  refine za _ (a9 _ _ _ _ _ _ _ _ _ rfl rfl) (za (iv x8) (zo rfl ((zz Ag3 Sz3 b0) _ (Chg.refl _ _))) (ai rfl (zb (c_sr (mi rfl (za _ (zx rfl rfl) (mb rfl ?_)))))))
  rcases zf hs with ⟨a2, hs⟩ | ⟨a2, hs⟩
  ·skip
   refine pn 15 (cb a2) (pn 15 (cb a2) (pn 15 (cb a2) (za _ (ptb (cb a2) rfl) (zb (zg (by rfl) (c_sr (ab rfl (zb (wp_ret ?_)))))))))
   cases hs
   exact ⟨_, fr_m 21 rfl, hC⟩
  refine py 15 (iv x8) (cb a2) (zt rfl) (py 15 (iv n) (cb a2) (zt rfl) (py 15 _ (cb a2) (wb rfl rfl) (za _ (pfb (cb a2) rfl) (zb ?_))))
  rcases zf hs with ⟨a3, hs⟩ | ⟨a3, hs⟩
  ·refine zg (cb a3) (c_sr (ab rfl (zb (wp_ret ?_))))
   cases hs
   exact ⟨_, fr_m 21 rfl, hC⟩
  refine zh (cb a3) (wp_skip (ze (za _ (yad rfl rfl) (mi rfl (zb ?_)))))
  cases hs
  exact ⟨_, rfl, Zq hd, _, zD 21 ⟨rfl, rfl, rfl, congrArg (Value.int .i64) (Yh hlt (Int.natCast_nonneg _) (XO h0)), trivial⟩, hC, hO, h0⟩
 ·skip
  exact ⟨0, rfl, rfl, _, fr_m 21 rfl, hC, hO, h0⟩
 cases o9 with
 | nx _ => exact True.intro
 | rt r_ =>
  have hs := zp hs
  intro b1 a4 hK
  cases hs
  exact hK
 | br s5 =>
  have hs := zq hs
  rintro b1 a0 ⟨σ, rfl, hC, hO, h0⟩
  refine c_sr (ab rfl (zb (wp_ret ?_)))
  cases hs
  exact ⟨_, fr_m 21 rfl, hC⟩

theorem Bd88 : zC Try.prog 88 := zI Try.func88 (by kernel_rfl) rfl

theorem Bd77 : zC Try.prog 77 := zI Try.func77 (by kernel_rfl) rfl

def Uq (M : Nat → Prop) (w0 : World) (r : Bool) (a : Act) (w : World) : Prop :=
  ∃ (σ : Nat → Value) , a = fr 29 (ovl σ [(4, (.bool r))]) ∧ Chg [] w0 w
def Yr (f : Int × (List Int)) (n : Int) : Option (Bool) :=
  (bif (decide (0 ≤ f.1)) then (bif (decide (f.1 ≤ 3)) then (ZX n f.1).bind fun r7 =>
  (bif ((f.2.length : Int) == r7) then (Ym f.2 n).bind fun r10 =>
  some r10 else some false) else some false) else some false)
set_option maxHeartbeats 4000000 in
theorem UL {M : Nat → Prop} {w : World} {pa0 : Option Addr} {pn0 pc0 : Nat} (f : Int × (List Int)) (n : Int) (h0 : rl.val M w (.slice pa0 pn0 pc0) f.2 ([])) (hM : ∀ g, w.heap.size ≤ g → M g) {r : Bool} (hs : Yr f n = some r) :
    Gives Try.prog 76 [(.agg #[(iv f.1), (.slice pa0 pn0 pc0)]), (iv n)] w (fun v w' => v = (.bool r) ∧ Chg [] w w') := by
 refine zr Try.func76 rfl Try.ntmps76 (Nat.le_of_ble_eq_true rfl) ?_
 have hO := Own.start (N := Nw w []) hM Nw.fut
 have hC := Chg.refl [] w
 unfold Yr at hs
 refine wp_k (K := (Uq M w r)) (by rintro _ _ ⟨σ, rfl, hrest⟩; exact Zh Try.results76 (zB rfl) ⟨rfl, hrest⟩) (c_sr ?_)
 obtain ⟨a8, a6, b1, b0, a9, a1⟩ := zi w [(iv f.1), (.slice pa0 pn0 pc0)] 89
 refine za (w' := a8) (pq a6 0) (ZW rfl (by rw [b1, b0]; kernel_rfl)) ?_
 obtain ⟨h0, hC⟩ := xt2 a9 h0 hC
 have hO := hO.new1 a9 b0 a1.lt
 refine ab rfl (zb (zd (Ze [] Mx rfl ?_)))
 have a7 := Chg.drew a8
 generalize World.drew a8 = b2 at a7 ⊢
 obtain ⟨h0, a1, hC, hO⟩ := xt4 a7 h0 a1 hC hO
 have hS := Chg.refl [] b2
 refine xq 0 (pq a6 0) rfl (zk rfl yM) hS (xl 1 rfl (ldx rfl Ag3 Sz3 a1 rfl) hS (xq 2 _ rfl (wb rfl rfl) hS (xmb 3 rfl rfl hS ?_)))
 rcases zf hs with ⟨a3, hs⟩ | ⟨a3, hs⟩
 ·skip
  refine xpy 4 8 (pq a6 0) rfl (cb a3) (zk rfl yM) hS (x_ly 5 (iv f.1) rfl (by kernel_rfl) (tg := 8) (by kernel_rfl) (cb a3) (fun w' hw' => zo rfl ((Zr Ag3 Sz3 a1 [] [(iv f.1)] [(.slice pa0 pn0 pc0)] rfl rfl (fun _ => rfl)) w' hw')) hS (xpy 6 8 _ rfl (cb a3) (XF rfl rfl) hS (xq 7 _ rfl (ptb (cb a3) rfl) hS (xmb 8 rfl rfl hS ?_))))
  rcases zf hs with ⟨a0, hs⟩ | ⟨a0, hs⟩
  ·skip
   refine xpy 9 13 (pq a6 1) rfl (cb a0) (zk rfl xE) hS (x_ly 10 (.slice pa0 pn0 pc0) rfl (by kernel_rfl) (tg := 13) (by kernel_rfl) (cb a0) (fun w' hw' => zo rfl ((Zr Ag43 Sz43 a1 [(iv f.1)] [(.slice pa0 pn0 pc0)] [] rfl rfl (fun _ => rfl)) w' hw')) hS (xpy 11 13 _ rfl (cb a0) (zn Sl43 (zu h0) rfl) hS (xpy 12 13 (iv n) rfl (cb a0) (zt rfl) hS (xpy 13 13 (pq a6 0) rfl (cb a0) (zk rfl yM) hS (x_ly 14 (iv f.1) rfl (by kernel_rfl) (tg := 13) (by kernel_rfl) (cb a0) (fun w' hw' => zo rfl ((Zr Ag3 Sz3 a1 [] [(iv f.1)] [(.slice pa0 pn0 pc0)] rfl rfl (fun _ => rfl)) w' hw')) hS (zP (i := 15) (by kernel_rfl) ?_))))))
   obtain ⟨r7, b3, hs⟩ := bind_some hs
   refine XG (b := false) rfl (tg := 13) (by kernel_rfl) (cb a0) Bd88 rfl (xL (M := M) n f.1  hO.fut b3) rfl (by rintro _ _ _ ⟨rfl, a4⟩; exact hS.ext a4) ?_
   rintro _ b6 ⟨rfl, a4⟩
   obtain ⟨h0, a1, hC, hO, hS⟩ := xt5 a4 h0 a1 hC hO hS
   refine xpy 16 13 (.bool ((f.2.length : Int) == r7)) rfl (cb a0) (xz rfl rfl) hS (xq 17 _ rfl (ptb (cb a0) rfl) hS (xmb 18 rfl rfl hS ?_))
   rcases zf hs with ⟨a2, hs⟩ | ⟨a2, hs⟩
   ·skip
    refine xpy 19 23 (pq a6 1) rfl (cb a2) (zk rfl xE) hS (xpy 21 23 (iv n) rfl (cb a2) (zt rfl) hS (zP (i := 20) (by kernel_rfl) (wy (b := false) (.slice pa0 pn0 pc0) rfl (tg := 23) (by kernel_rfl) (cb a2) (zo rfl ((Zr Ag43 Sz43 a1 [(iv f.1)] [(.slice pa0 pn0 pc0)] [] rfl rfl (fun _ => rfl)) _ (Chg.refl _ _))) rfl (fun _ => hS) (zP (i := 22) (by kernel_rfl) ?_))))
    obtain ⟨r10, b4, hs⟩ := bind_some hs
    refine XG (b := false) rfl (tg := 23) (by kernel_rfl) (cb a2) Bd77 rfl (VS (M := M) f.2 n h0 hO.fut b4) rfl (by rintro _ _ _ ⟨rfl, a5⟩; exact hS.ext a5) ?_
    rintro _ b7 ⟨rfl, a5⟩
    obtain ⟨h0, a1, hC, hO, hS⟩ := xt5 a5 h0 a1 hC hO hS
    refine xq 23 _ rfl (ptb (cb a2) rfl) hS (xq 24 (.bool r10) rfl (zE rfl) hS (Zc (by kernel_rfl) ?_))
    clear hS
    refine wp_ret ?_
    cases hs
    exact ⟨_, fr_m 29 rfl, hC⟩
   refine xpn 19 23 rfl (cb a2) hS (xpn 20 23 rfl (cb a2) hS (xpn 21 23 rfl (cb a2) hS (xpn 22 23 rfl (cb a2) hS (xq 23 _ rfl (pfb (cb a2) rfl) hS (xq 24 (.bool false) rfl (zE rfl) hS (Zc (by kernel_rfl) ?_))))))
   clear hS
   refine wp_ret ?_
   cases hs
   exact ⟨_, fr_m 29 rfl, hC⟩
  refine xpn 9 13 rfl (cb a0) hS (xpn 10 13 rfl (cb a0) hS (xpn 11 13 rfl (cb a0) hS (xpn 12 13 rfl (cb a0) hS (xpn 13 13 rfl (cb a0) hS (xpn 14 13 rfl (cb a0) hS (xpn 15 13 rfl (cb a0) hS (xpn 16 13 rfl (cb a0) hS (xq 17 _ rfl (pfb (cb a0) rfl) hS (xmb 18 rfl rfl hS (xpn 19 23 rfl (by rfl) hS (xpn 20 23 rfl (by rfl) hS (xpn 21 23 rfl (by rfl) hS (xpn 22 23 rfl (by rfl) hS (xq 23 _ rfl (pfb (by rfl) rfl) hS (xq 24 (.bool false) rfl (zE rfl) hS (Zc (by kernel_rfl) ?_))))))))))))))))
  clear hS
  refine wp_ret ?_
  cases hs
  exact ⟨_, fr_m 29 rfl, hC⟩
 refine xpn 4 8 rfl (cb a3) hS (xpn 5 8 rfl (cb a3) hS (xpn 6 8 rfl (cb a3) hS (xq 7 _ rfl (pfb (cb a3) rfl) hS (xmb 8 rfl rfl hS (xpn 9 13 rfl (by rfl) hS (xpn 10 13 rfl (by rfl) hS (xpn 11 13 rfl (by rfl) hS (xpn 12 13 rfl (by rfl) hS (xpn 13 13 rfl (by rfl) hS (xpn 14 13 rfl (by rfl) hS (xpn 15 13 rfl (by rfl) hS (xpn 16 13 rfl (by rfl) hS (xq 17 _ rfl (pfb (by rfl) rfl) hS (xmb 18 rfl rfl hS (xpn 19 23 rfl (by rfl) hS (xpn 20 23 rfl (by rfl) hS (xpn 21 23 rfl (by rfl) hS (xpn 22 23 rfl (by rfl) hS (xq 23 _ rfl (pfb (by rfl) rfl) hS (xq 24 (.bool false) rfl (zE rfl) hS (Zc (by kernel_rfl) ?_)))))))))))))))))))))
 clear hS
 refine wp_ret ?_
 cases hs
 exact ⟨_, fr_m 29 rfl, hC⟩

theorem Bd76 : zC Try.prog 76 := zI Try.func76 (by kernel_rfl) rfl

def Xy (M : Nat → Prop) (w0 : World) (r : Bool) (a : Act) (w : World) : Prop :=
  ∃ (σ : Nat → Value) , a = fr 32 (ovl σ [(2, (.bool r))]) ∧ Chg [] w0 w
def yh (a_ : Int × (List (Int × (List Int)))) : Option (Bool) :=
  (bif (((decide (a_.1 < 1)) || (decide (8 < a_.1))) || (decide (4 < (a_.2.length : Int)))) then some false else (forR (S := Unit) (R := Bool) (fun _ x21 s18 =>
  (Yr (x21.1, x21.2) a_.1).bind fun r30 =>
  (bif (!r30) then some (.rt false) else some (.nx ()))) 0 a_.2 ()).bind fun o22 => after o22 (fun r_ => some r_) (fun s18 =>
  some true))
set_option maxHeartbeats 4000000 in
theorem WX {M : Nat → Prop} {w : World} {pa0 : Option Addr} {pn0 pc0 : Nat} (a_ : Int × (List (Int × (List Int)))) (h0 : (RT.rs (RT.pr ri rl)).val M w (.slice pa0 pn0 pc0) a_.2 ([])) (hM : ∀ g, w.heap.size ≤ g → M g) {r : Bool} (hs : yh a_ = some r) :
    Gives Try.prog 39 [(.agg #[(iv a_.1), (.slice pa0 pn0 pc0)])] w (fun v w' => v = (.bool r) ∧ Chg [] w w') := by
 refine zr Try.func39 rfl Try.ntmps39 (Nat.le_of_ble_eq_true rfl) ?_
 have hO := Own.start (N := Nw w []) hM Nw.fut
 have hC := Chg.refl [] w
 unfold yh at hs
 refine wp_k (K := (Xy M w r)) (by rintro _ _ ⟨σ, rfl, hrest⟩; exact Zh Try.results39 (zB rfl) ⟨rfl, hrest⟩) (c_sr ?_)
 obtain ⟨b6, a1, c9, c1, b7, a0⟩ := zi w [(iv a_.1), (.slice pa0 pn0 pc0)] 35
 refine za (w' := b6) (pq a1 0) (ZW rfl (by rw [c9, c1]; kernel_rfl)) ?_
 obtain ⟨h0, hC⟩ := xt2 b7 h0 hC
 have hO := hO.new1 b7 c1 a0.lt
 refine ab rfl (zb (zd (zd (yO (I := fun a c2 => ∃ (σ : Nat → Value), a = fr 32 (ovl σ [(1, (pq a1 0)), (2, (.bool false)), (18, (.bool (((decide (a_.1 < 1)) || (decide (8 < a_.1))) || (decide (4 < (a_.2.length : Int))))))]) ∧ Chg [] b6 c2) ?_ ?_))))
 ·have hMid := Chg.refl [] b6
  refine ze (za (pq a1 0) (zk rfl Yo) (za _ (ld rfl Ag3 Sz3 a0 rfl) (za _ (zx rfl rfl) (mb rfl ?_))))
  rcases Bool.eq_false_or_eq_true ((decide (a_.1 < 1))) with a5 | a5
  ·skip
   refine pn 8 (cb a5) (pn 8 (cb a5) (pn 8 (cb a5) (za (.bool ((decide (a_.1 < 1)) || (decide (8 < a_.1)))) (ZT (cb a5) (cb (by rw [a5]; rfl))) (mb rfl ?_))))
   rcases Bool.eq_false_or_eq_true (((decide (a_.1 < 1)) || (decide (8 < a_.1)))) with a2 | a2
   ·skip
    refine pn 13 (cb a2) (pn 13 (cb a2) (pn 13 (cb a2) (pn 13 (cb a2) (za (.bool (((decide (a_.1 < 1)) || (decide (8 < a_.1))) || (decide (4 < (a_.2.length : Int))))) (ZT (cb a2) (cb (by rw [a2]; rfl))) (zb ?_)))))
    exact ⟨_, fr_m 32 rfl, hMid⟩
   refine py 13 (pq a1 1) (cb a2) (zk rfl ZD) (py 13 _ (cb a2) (ld rfl Ag33 Sz33 a0 rfl) (py 13 _ (cb a2) (zn Sl33 (zu h0) rfl) (py 13 _ (cb a2) (YJ rfl rfl) (za (.bool (((decide (a_.1 < 1)) || (decide (8 < a_.1))) || (decide (4 < (a_.2.length : Int))))) (ZF (cb a2) (cb (by rw [a2]; rfl))) (zb ?_)))))
   exact ⟨_, fr_m 32 rfl, hMid⟩
  refine py 8 (pq a1 0) (cb a5) (zk rfl Yo) (py 8 _ (cb a5) (ld rfl Ag3 Sz3 a0 rfl) (py 8 _ (cb a5) (YJ rfl rfl) (za (.bool ((decide (a_.1 < 1)) || (decide (8 < a_.1)))) (ZF (cb a5) (cb (by rw [a5]; rfl))) (mb rfl ?_))))
  rcases Bool.eq_false_or_eq_true (((decide (a_.1 < 1)) || (decide (8 < a_.1)))) with a3 | a3
  ·skip
   refine pn 13 (cb a3) (pn 13 (cb a3) (pn 13 (cb a3) (pn 13 (cb a3) (za (.bool (((decide (a_.1 < 1)) || (decide (8 < a_.1))) || (decide (4 < (a_.2.length : Int))))) (ZT (cb a3) (cb (by rw [a3]; rfl))) (zb ?_)))))
   exact ⟨_, fr_m 32 rfl, hMid⟩
  refine py 13 (pq a1 1) (cb a3) (zk rfl ZD) (py 13 _ (cb a3) (ld rfl Ag33 Sz33 a0 rfl) (py 13 _ (cb a3) (zn Sl33 (zu h0) rfl) (py 13 _ (cb a3) (YJ rfl rfl) (za (.bool (((decide (a_.1 < 1)) || (decide (8 < a_.1))) || (decide (4 < (a_.2.length : Int))))) (ZF (cb a3) (cb (by rw [a3]; rfl))) (zb ?_)))))
  exact ⟨_, fr_m 32 rfl, hMid⟩
 rintro c3 c2 ⟨σ, rfl, b5⟩
 obtain ⟨h0, a0, hC, hO⟩ := xt4 b5 h0 a0 hC hO
 rcases zf hs with ⟨b8, hs⟩ | ⟨b8, hs⟩
 ·refine zg (cb b8) (c_sr (ab rfl (zb (wp_ret ?_))))
  cases hs
  exact ⟨_, fr_m 32 rfl, hC⟩
 refine zh (cb b8) (wp_skip (zd (c_sr (za (pq a1 1) (zk rfl ZD) (za _ (ld rfl Ag33 Sz33 a0 rfl) (za _ (zn Sl33 (zu h0) rfl) (mi rfl (zb ?_))))))))
 obtain ⟨o22, d0, hs⟩ := bind_some hs
 refine wp_block (YM (id := 0) (I := fun i_ xs_ s18 a a4 => ∃ a6 : Nat, i_ = (a6 : Int) ∧ List.drop a6 a_.2 = xs_ ∧ (∃ (σ : Nat → Value), a = fr 32 (ovl σ [(1, (pq a1 0)), (20, (.slice pa0 pn0 pc0)), (21, (iv (a_.2.length : Int))), (22, (iv (a6 : Int)))]) ∧ Chg [] w a4 ∧ Own (Nw w []) M a4 (([a1]) ++ []) ∧ (RT.rs (RT.pr ri rl)).val M a4 (.slice pa0 pn0 pc0) a_.2 ([]) ∧ BoxV a4 a1 35 [(iv a_.1), (.slice pa0 pn0 pc0)])) (J := fun s18 a a4 => ∃ (σ : Nat → Value), a = fr 32 (ovl σ []) ∧ Chg [] w a4 ∧ Own (Nw w []) M a4 (([a1]) ++ []) ∧ (RT.rs (RT.pr ri rl)).val M a4 (.slice pa0 pn0 pc0) a_.2 ([]) ∧ BoxV a4 a1 35 [(iv a_.1), (.slice pa0 pn0 pc0)]) (K := (Xy M w)) ?_ ?_ a_.2 0 () o22 _ _ ?_ d0 ?_)
 ·rintro _ s18 a a4 ⟨a6, rfl, hd, σ, rfl, hC, hO, h0, a0⟩
  have hlt := yb hd
  refine c_sr (za _ (zx rfl rfl) (zb (zd (zh (cb (decide_eq_false hlt)) (wp_exit ?_)))))
  exact ⟨rfl, _, zD 32 trivial, hC, hO, h0, a0⟩
 ·rintro _ x21 xs_ s18 o22 a a4 ⟨a6, rfl, hd, σ, rfl, hC, hO, h0, a0⟩ hs
  have hlt := ZJ hd
  have d1 := Zz hd
  refine c_sr (za _ (zx rfl rfl) (zb (zd (zg (cb (decide_eq_true hlt)) (wp_skip (zd (wp_block (c_sr ?_))))))))
  obtain ⟨d2, d3, d4, b9⟩ := zN Sl33 Sz89 h0 d1
  refine za _ (d4 _ _ _ _ _ _ _ _ _ rfl rfl) ?_
  obtain ⟨e4, d5, d6⟩ := Zj Ag89 Sz89 (by intro h; cases h) b9
  obtain ⟨e5, rfl, d7⟩ := d6
  obtain ⟨e6, e7, rfl, d8, d9⟩ := Yz d7
  obtain rfl := YN d8
  obtain ⟨b0, b1, b2, rfl, a7⟩ := xp d9
  refine za (.agg #[(iv x21.1), (.slice b0 b1 b2)]) (zo rfl (d5 _ (Chg.refl _ _))) ?_
  obtain ⟨e0, c4, e1, c5, a8, c6⟩ := zi a4 [(iv 0), (.slice none 0 0)] 89
  refine za (w' := e0) (pq c4 0) (xa (by rw [e1, c5]; kernel_rfl)) ?_
  obtain ⟨h0, a0, a7, b9, hC⟩ := xt5 a8 h0 a0 a7 b9 hC
  have hO := hO.new1 a8 c5 c6.lt
  obtain ⟨c7, e2, b3, b4⟩ := ZA (P := Try.prog) c6 [] [(iv 0), (.slice none 0 0)] [] [(iv x21.1), (.slice b0 b1 b2)] rfl rfl (by intro u hu; simp only [List.mem_cons, List.not_mem_nil, or_false] at hu; rcases hu with rfl | rfl <;> rfl)
  refine Zk (w' := c7) (zV rfl rfl (e2 _ _ rfl Sz89)) ?_
  have h0 := h0.mt b3 hO zj
  have a0 := a0.ap b3 hO zj (zm (List.mem_singleton.2 rfl))
  have a7 := a7.mt b3 hO zj
  have hC := hC.st b3 hO zj
  have hO := hO.ext b3
  have b4 : BoxV c7 c4 89 [(iv x21.1), (.slice b0 b1 b2)] := b4
  refine zb (c_sr (za _ (ldw rfl Ag89 b4 Sz89) (za (pq a1 0) (zk rfl Yo) (za _ (ld rfl Ag3 Sz3 a0 rfl) ?_))))
  obtain ⟨r30, e3, hs⟩ := bind_some hs
  refine zy Bd76 rfl (UL (M := M) (x21.1, x21.2) a_.1 a7 hO.fut e3) ?_
  rintro _ e8 ⟨rfl, a9⟩
  obtain ⟨h0, a0, a7, b4, hC, hO⟩ := xt6 a9 h0 a0 a7 b4 hC hO
  refine za _ (ZQ rfl) (zb ?_)
  rcases zf hs with ⟨c0, hs⟩ | ⟨c0, hs⟩
  ·refine zg (cb c0) (c_sr (ab rfl (zb (wp_ret ?_))))
   cases hs
   exact ⟨_, fr_m 32 rfl, hC⟩
  refine zh (cb c0) (wp_skip (ze (za _ (yad rfl rfl) (mi rfl (zb ?_)))))
  cases hs
  have hO := hO.drop
  exact ⟨_, rfl, Zq hd, _, zD 32 ⟨rfl, rfl, rfl, congrArg (Value.int .i64) (Yh hlt (Int.natCast_nonneg _) (XO h0)), trivial⟩, hC, hO, h0, a0⟩
 ·skip
  exact ⟨0, rfl, rfl, _, fr_m 32 rfl, hC, hO, h0, a0⟩
 cases o22 with
 | nx _ => exact True.intro
 | rt r_ =>
  have hs := zp hs
  intro c3 c8 hK
  cases hs
  exact hK
 | br s18 =>
  have hs := zq hs
  rintro c3 a4 ⟨σ, rfl, hC, hO, h0, a0⟩
  refine c_sr (ab rfl (zb (wp_ret ?_)))
  cases hs
  exact ⟨_, fr_m 32 rfl, hC⟩

def wX (M : Nat → Prop) (w0 : World) (r : (List Int)) (a : Act) (w : World) : Prop :=
  ∃ (σ : Nat → Value) (ra0 : Option Addr) (rn0 rc0 : Nat) (rf0 : List Nat), a = fr 27 (ovl σ [(6, (.slice ra0 rn0 rc0))]) ∧ Chg [] w0 w ∧ (RT.os 3 (RT.int .i64)).val M w (.slice ra0 rn0 rc0) r rf0 ∧ Own (Nw w0 []) (fun _ => True) w (rf0 ++ ([]))
def yi (i : Int) (k : Int) (n : Int) : Option ((List Int)) :=
  (mks k (0 : Int)).bind fun y2 =>
  (iter (S := Int × Int × (List Int)) (R := (List Int)) (fun s17 =>
  (bif (decide (0 ≤ s17.2.1)) then (nz n).bind fun u26 =>
  (idx s17.2.2 s17.2.1).bind fun x27 =>
  (nz n).bind fun u30 =>
  some (.nx (w64 (Int.tdiv s17.1 n), w64 (s17.2.1 - 1), List.set s17.2.2 (Int.toNat s17.2.1) (Int.tmod s17.1 n))) else some (.br (s17.1, s17.2.1, s17.2.2)))) FU (i, w64 (k - 1), y2)).bind fun o21 => after o21 (fun r_ => some r_) (fun s17 =>
  some s17.2.2)
set_option maxHeartbeats 4000000 in
theorem Xl {M : Nat → Prop} {w : World}  (i : Int) (k : Int) (n : Int)  (hM : ∀ g, w.heap.size ≤ g → M g) {r : (List Int)} (hs : yi i k n = some r) :
    Gives Try.prog 89 [(iv i), (iv k), (iv n)] w (fun v w' => ∃ (ra0 : Option Addr) (rn0 rc0 : Nat) (rf0 : List Nat), v = (.slice ra0 rn0 rc0) ∧ Chg [] w w' ∧ (RT.os 3 ri).val M w' (.slice ra0 rn0 rc0) r rf0 ∧ Own (Nw w []) (fun _ => True) w' (rf0 ++ ([]))) := by
 refine zr Try.func89 rfl Try.ntmps89 (Nat.le_of_ble_eq_true rfl) ?_
 have hO := Own.start (N := Nw w []) hM Nw.fut
 have hC := Chg.refl [] w
 unfold yi at hs
 refine wp_k (K := (wX M w r)) (by rintro _ _ ⟨σ, ra0, rn0, rc0, rf0, rfl, hrest⟩; exact Zh Try.results89 (zB rfl) ⟨ra0, rn0, rc0, rf0, rfl, hrest⟩) (c_sr (ax rfl (zb (c_sr (mi rfl ?_)))))
 obtain ⟨y2, b5, hs⟩ := bind_some hs
 obtain ⟨a0, a1, a2, a7, b6, b7, b1, b8, a8⟩ := YI (M := M) (w := w) (r := ri) Rw43 b5 (fun _ _ => ⟨rfl, rfl⟩)
 refine za (w' := a7) (.slice a0 a1 a2) (yL rfl rfl b7) ?_
 have hC := hC.ext b1
 have hO := hO.new b1 b8 (zw a8) a8.fpl
 refine ax rfl (zb (zd (c_sr (mi rfl (za _ (ysu rfl rfl) (ai rfl (zb ?_)))))))
 obtain ⟨o21, b9, hs⟩ := bind_some hs
 refine wp_block (Zt (id := 0) (I := fun s17 a a3 => ∃ (σ : Nat → Value) (a4 : List Nat), a = fr 27 (ovl σ [(0, (iv s17.1)), (2, (iv n)), (7, (.slice a0 a1 a2)), (8, (iv s17.2.1))]) ∧ Chg [] w a3 ∧ Own (Nw w []) M a3 (a4 ++ []) ∧ (RT.os 3 ri).val M a3 (.slice a0 a1 a2) s17.2.2 a4) (J := fun s17 a a3 => ∃ (σ : Nat → Value) (a6 : List Nat), a = fr 27 (ovl σ [(7, (.slice a0 a1 a2))]) ∧ Chg [] w a3 ∧ Own (Nw w []) M a3 (a6 ++ []) ∧ (RT.os 3 ri).val M a3 (.slice a0 a1 a2) s17.2.2 a6) (K := (wX M w)) ?_ FU (i, w64 (k - 1), y2) o21 _ _ ?_ b9 ?_)
 ·rintro s17 o21 a a3 ⟨σ, a4, rfl, hC, hO, a5⟩ hs
  refine zd (c_sr (mi rfl (za _ (wb rfl rfl) (zb ?_))))
  rcases zf hs with ⟨a9, hs⟩ | ⟨a9, hs⟩
  ·refine zg (cb a9) (wp_skip (zd (wp_block (c_sr (ms rfl (mi rfl (mi rfl (mi rfl ?_))))))))
   obtain ⟨u26, c0, hs⟩ := bind_some hs
   refine za (iv (Int.tmod s17.1 n)) (y_rem rfl rfl (nz_ne c0)) ?_
   obtain ⟨x27, c1, hs⟩ := bind_some hs
   obtain ⟨b2, d1, b3, c2, c3, d2, d3⟩ := zR Sl43 Sz3 a5 c1
   refine za _ (c3 _ _ _ _ _ _ _ _ _ rfl rfl) ?_
   obtain ⟨c4, c5, c6, b4, c7, b0⟩ := yn (P := Try.prog) (c' := [(iv (Int.tmod s17.1 n))]) b3 a5 c2 (fun g hg => hO.inM g (zA a5 g (by simpa using hg))) ⟨rfl, rfl⟩ List.nodup_nil (fun _ h => nomatch h) (fun _ h => .inl h)
   have c8 : ∀ q ∈ [b2], q ∈ a4 := fun q hq => zA a5 q (by rw [b3]; exact hq)
   refine Zk (w' := c4) (zV rfl rfl (c6 _ _ rfl Sz3)) ?_
   have hC := hC.st b4 hO c8
   have hO := hO.grow b4 (fun q hq => .inl ((c7 q hq).resolve_right (fun h => nomatch h))) (zw b0) b0.fpl
   refine zb (ze (mi rfl (mi rfl ?_)))
   obtain ⟨u30, c9, hs⟩ := bind_some hs
   refine za (iv (w64 (Int.tdiv s17.1 n))) (y_quo rfl rfl (nz_ne c9)) (ai rfl (zb (ze (mi rfl (za _ (ysu rfl rfl) (ai rfl (zb ?_)))))))
   cases hs
   exact ⟨_, c5, fr_m 27 rfl, hC, hO, b0⟩
  refine zh (cb a9) (wp_exit ?_)
  cases hs
  exact ⟨rfl, _, a4, fr_m 27 rfl, hC, hO, a5⟩
 ·skip
  exact ⟨_, b6, fr_m 27 rfl, hC, hO, a8⟩
 cases o21 with
 | nx _ => exact True.intro
 | rt r_ =>
  have hs := zp hs
  intro a0 a7 hK
  cases hs
  exact hK
 | br s17 =>
  have hs := zq hs
  rintro a0 a3 ⟨σ, a6, rfl, hC, hO, d0⟩
  refine c_sr (ms rfl (ax rfl (zb (wp_ret ?_))))
  cases hs
  exact ⟨_, a0, a1, a2, a6, fr_m 27 rfl, hC, d0, hO.top⟩

def uG (M : Nat → Prop) (w0 : World) (r : (List Int)) (a : Act) (w : World) : Prop :=
  ∃ (σ : Nat → Value) (ra0 : Option Addr) (rn0 rc0 : Nat) (rf0 : List Nat), a = fr 6 (ovl σ [(2, (.slice ra0 rn0 rc0))]) ∧ Chg [] w0 w ∧ (RT.os 3 (RT.int .i64)).val M w (.slice ra0 rn0 rc0) r rf0 ∧ Option.isNone ra0 = false ∧ Own (Nw w0 []) (fun _ => True) w (rf0 ++ ([]))
def yy (list : List Int) : Option ((List Int)) :=
  (app ([]) list).bind fun y5 =>
  some y5
set_option maxHeartbeats 4000000 in
theorem Wz {M : Nat → Prop} {w : World} {pa0 : Option Addr} {pn0 pc0 : Nat} (list : List Int) (h0 : rl.val M w (.slice pa0 pn0 pc0) list ([])) (hM : ∀ g, w.heap.size ≤ g → M g) {r : (List Int)} (hs : yy list = some r) :
    Gives Try.prog 99 [(.slice pa0 pn0 pc0)] w (fun v w' => ∃ (ra0 : Option Addr) (rn0 rc0 : Nat) (rf0 : List Nat), v = (.slice ra0 rn0 rc0) ∧ Chg [] w w' ∧ (RT.os 3 ri).val M w' (.slice ra0 rn0 rc0) r rf0 ∧ Option.isNone ra0 = false ∧ Own (Nw w []) (fun _ => True) w' (rf0 ++ ([]))) := by
 refine zr Try.func99 rfl Try.ntmps99 (Nat.le_of_ble_eq_true rfl) ?_
 have hO := Own.start (N := Nw w []) hM Nw.fut
 have hC := Chg.refl [] w
 unfold yy at hs
 refine wp_k (K := (uG M w r)) (by rintro _ _ ⟨σ, ra0, rn0, rc0, rf0, rfl, hrest⟩; exact Zh Try.results99 (zB rfl) ⟨ra0, rn0, rc0, rf0, rfl, hrest⟩) (c_sr (ax rfl (zb (c_sr ?_))))
 obtain ⟨a8, a1, b2, a9, a2, b0⟩ := zi w [] 3
 refine za (w' := a8) (.slice (some ⟨a1, 0, none⟩) 0 0) (zG rfl (by rw [b2, a9]; kernel_rfl)) ?_
 obtain ⟨h0, hC⟩ := xt2 a2 h0 hC
 have hO := hO.new1 a2 a9 b0.lt
 have a0 := os0 (r := ri) (M := M) b0
 refine ms rfl ?_
 obtain ⟨y5, b3, hs⟩ := bind_some hs
 obtain ⟨a3, a4, a5, b4, b5, b6, a6, b7, a7, b8⟩ := app_rs_nn Rw43 b3 a0 h0 hO.inM
 have b1 := zA a0
 refine za (w' := b4) (.slice a3 a4 a5) (zU rfl rfl (b6 _)) ?_
 have h0 := h0.mt a6 hO b1
 have hC := hC.st a6 hO b1
 have hO := hO.grow a6 b7 (zw a7) a7.fpl
 refine ax rfl (zb (wp_ret ?_))
 cases hs
 exact ⟨_, a3, a4, a5, b5, fr_m 6 rfl, hC, a7, b8, hO.top⟩

theorem Rw118 : RowT Try.prog 118 5 1 [(.int .u8 0)] := ⟨Try.underlying118, ⟨_, _, rfl, rfl, rfl, rfl, by decide⟩, rfl, by decide⟩

def WC (M : Nat → Prop) (w0 : World) (r : ByteArray) (a : Act) (w : World) : Prop :=
  ∃ (σ : Nat → Value) , a = fr 27 (ovl σ [(2, (.string r))]) ∧ Chg [] w0 w
def Zu (list : List Int) : Option (ByteArray) :=
  (mkc 0 (w64 (2 * (list.length : Int)))).bind fun u3 =>
  (forR (S := (List Int)) (R := ByteArray) (fun _ x16 s13 =>
  (app s13 ([IntKind.u8.wrap (ishr .i64 x16 8), IntKind.u8.wrap x16])).bind fun y27 =>
  some (.nx y27)) 0 list (List.replicate (Int.toNat 0) (0 : Int))).bind fun o17 => after o17 (fun r_ => some r_) (fun s13 =>
  some (bstr s13))
set_option maxHeartbeats 4000000 in
theorem xg {M : Nat → Prop} {w : World} {pa0 : Option Addr} {pn0 pc0 : Nat} (list : List Int) (h0 : rl.val M w (.slice pa0 pn0 pc0) list ([])) (hM : ∀ g, w.heap.size ≤ g → M g) {r : ByteArray} (hs : Zu list = some r) :
    Gives Try.prog 59 [(.slice pa0 pn0 pc0)] w (fun v w' => v = (.string r) ∧ Chg [] w w') := by
 refine zr Try.func59 rfl Try.ntmps59 (Nat.le_of_ble_eq_true rfl) ?_
 have hO := Own.start (N := Nw w []) hM Nw.fut
 have hC := Chg.refl [] w
 unfold Zu at hs
 refine wp_k (K := (WC M w r)) (by rintro _ _ ⟨σ, rfl, hrest⟩; exact Zh Try.results59 (zB rfl) ⟨rfl, hrest⟩) (c_sr (za (.string ByteArray.empty) (zE rfl) (zb (c_sr (ms rfl (za _ (zn Sl43 (zu h0) rfl) (za _ (ymu rfl rfl) ?_)))))))
 obtain ⟨u3, c9, hs⟩ := bind_some hs
 obtain ⟨b1, b2, b3, d0, d1, d2, b4, d3, b5⟩ := mk_cap (M := M) (w := w) (r := (RT.int .u8)) (x := (0 : Int)) Rw118 c9 (fun _ _ => ⟨rfl, rfl⟩)
 refine za (w' := d0) (.slice b1 b2 b3) (yL rfl rfl d2) ?_
 obtain ⟨h0, hC⟩ := xt2 b4 h0 hC
 have hO := hO.new b4 d3 (zw b5) b5.fpl
 refine ax rfl (zb (zd (c_sr (ms rfl (za _ (zn Sl43 (zu h0) rfl) (mi rfl (zb ?_)))))))
 obtain ⟨o17, d4, hs⟩ := bind_some hs
 refine wp_block (YM (id := 0) (I := fun i_ xs_ s13 a a0 => ∃ a1 : Nat, i_ = (a1 : Int) ∧ List.drop a1 list = xs_ ∧ (∃ (σ : Nat → Value) (a2 : Option Addr) (a3 : Nat) (a4 : Nat) (a6 : List Nat), a = fr 27 (ovl σ [(3, (.slice a2 a3 a4)), (10, (.slice pa0 pn0 pc0)), (11, (iv (list.length : Int))), (12, (iv (a1 : Int)))]) ∧ Chg [] w a0 ∧ Own (Nw w []) M a0 (a6 ++ []) ∧ rl.val M a0 (.slice pa0 pn0 pc0) list ([]) ∧ (RT.os 5 (RT.int .u8)).val M a0 (.slice a2 a3 a4) s13 a6)) (J := fun s13 a a0 => ∃ (σ : Nat → Value) (a7 : Option Addr) (a8 : Nat) (a9 : Nat) (b6 : List Nat), a = fr 27 (ovl σ [(3, (.slice a7 a8 a9))]) ∧ Chg [] w a0 ∧ Own (Nw w []) M a0 (b6 ++ []) ∧ rl.val M a0 (.slice pa0 pn0 pc0) list ([]) ∧ (RT.os 5 (RT.int .u8)).val M a0 (.slice a7 a8 a9) s13 b6) (K := (WC M w)) ?_ ?_ list 0 (List.replicate (Int.toNat 0) (0 : Int)) o17 _ _ ?_ d4 ?_)
 ·rintro _ s13 a a0 ⟨a1, rfl, hd, σ, a2, a3, a4, a6, rfl, hC, hO, h0, a5⟩
  have hlt := yb hd
  refine c_sr (za _ (zx rfl rfl) (zb (zd (zh (cb (decide_eq_false hlt)) (wp_exit ?_)))))
  exact ⟨rfl, _, a2, a3, a4, a6, fr_m 27 rfl, hC, hO, h0, a5⟩
 ·rintro _ x16 xs_ s13 o17 a a0 ⟨a1, rfl, hd, σ, a2, a3, a4, a6, rfl, hC, hO, h0, a5⟩ hs
  have hlt := ZJ hd
  have d5 := Zz hd
  refine c_sr (za _ (zx rfl rfl) (zb (zd (zg (cb (decide_eq_true hlt)) (wp_skip (zd (wp_block (c_sr ?_))))))))
  obtain ⟨d6, d7, d8, d9⟩ := zN Sl43 Sz3 h0 d5
  refine za _ (d8 _ _ _ _ _ _ _ _ _ rfl rfl) (za (iv x16) (zo rfl ((zz Ag3 Sz3 d9) _ (Chg.refl _ _))) (ai rfl (zb (ze (ms rfl (mi rfl (za (iv (ishr .i64 x16 8)) (UW rfl rfl (by decide)) (za (.int .u8 (IntKind.u8.wrap (ishr .i64 x16 8))) (yW Try.underlying3 Try.underlying5 rfl) (mi rfl (za (.int .u8 (IntKind.u8.wrap x16)) (yW Try.underlying3 Try.underlying5 rfl) ?_))))))))))
  obtain ⟨c4, b7, e0, c5, b0, c6⟩ := zi a0 [(.int .u8 (IntKind.u8.wrap (ishr .i64 x16 8))), (.int .u8 (IntKind.u8.wrap x16))] 5
  refine za (w' := c4) (.slice (some ⟨b7, 0, none⟩) 2 2) (zG rfl (by rw [e0, c5]; kernel_rfl)) ?_
  obtain ⟨h0, a5, hC⟩ := xt3 b0 h0 a5 hC
  have hO := hO.new1 b0 c5 c6.lt
  have b8 := zT (r := (RT.int .u8)) (M := M) (css := [[(.int .u8 (IntKind.u8.wrap (ishr .i64 x16 8)))], [(.int .u8 (IntKind.u8.wrap x16))]]) (fps := [([] : List Nat), ([] : List Nat)]) (xs := ([IntKind.u8.wrap (ishr .i64 x16 8), IntKind.u8.wrap x16] : List Int)) c6 ⟨⟨rfl, rfl⟩, ⟨⟨rfl, rfl⟩, trivial⟩⟩ (Nat.le_of_ble_eq_true rfl) (List.nodup_cons.2 ⟨(fun h => nomatch h), List.nodup_nil⟩)
  have b8 : (RT.os 5 (RT.int .u8)).val M c4 (.slice (some ⟨b7, 0, none⟩) 2 2) [IntKind.u8.wrap (ishr .i64 x16 8), IntKind.u8.wrap x16] [b7] := b8
  obtain ⟨y27, e1, hs⟩ := bind_some hs
  have hO := hO.fr1
  obtain ⟨b9, c0, c1, e2, e3, e4, c2, e5, c3⟩ := Yc Rw118 e1 a5 b8 hO.inM (fun g hg hq => hO.apart g hq (zm hg))
  have c7 := zA a5
  refine za (w' := e2) (.slice b9 c0 c1) (zU rfl rfl (e4 _)) ?_
  have hO := hO.fr1.fr1
  have h0 := h0.mt c2 hO c7
  have hC := hC.st c2 hO c7
  have hO := hO.eat c2 e5 (zw c3) c3.fpl
  refine ax rfl (zb (ze (za _ (yad rfl rfl) (mi rfl (zb ?_)))))
  cases hs
  exact ⟨_, rfl, Zq hd, _, b9, c0, c1, e3, zD 27 ⟨rfl, rfl, rfl, congrArg (Value.int .i64) (Yh hlt (Int.natCast_nonneg _) (XO h0)), trivial⟩, hC, hO, h0, c3⟩
 ·skip
  exact ⟨0, rfl, rfl, _, b1, b2, b3, d1, fr_m 27 rfl, hC, hO, h0, b5⟩
 cases o17 with
 | nx _ => exact True.intro
 | rt r_ =>
  have hs := zp hs
  intro e6 c8 hK
  cases hs
  exact hK
 | br s13 =>
  have hs := zq hs
  rintro e6 a0 ⟨σ, a7, a8, a9, b6, rfl, hC, hO, h0, e7⟩
  refine c_sr (ms rfl (za (.string (bstr s13)) (y_str Try.underlying118 Try.underlying9 Try.underlying5 e7 rfl) (za (.string (bstr s13)) (zE rfl) (zb (wp_ret ?_)))))
  cases hs
  exact ⟨_, fr_m 27 rfl, hC⟩

theorem VH : ∀ (a : Addr) (w : World), (Instr.fieldAt 81 (.pointer (some a)) 3).run Try.prog w = .ok (.pointer (some (a.add 4))) w := fun _ _ => by kernel_rfl

theorem Ag79 : AggT Try.prog 79 false := fun _ => by kernel_rfl

theorem Sz79 : SzT Try.prog 79 1 := ⟨_, rfl, rfl⟩

theorem Bd59 : zC Try.prog 59 := zI Try.func59 (by kernel_rfl) rfl

theorem Zv3 : ∀ w, (zeroValue 3).run Try.prog w = .ok ((Value.int .i64) 0) w := fun _ => by kernel_rfl

theorem Yt : ∀ (a : Addr) (w : World), (Instr.fieldAt 81 (.pointer (some a)) 2).run Try.prog w = .ok (.pointer (some (a.add 3))) w := fun _ _ => by kernel_rfl

theorem Ag25 : AggT Try.prog 25 false := fun _ => by kernel_rfl

theorem Sz25 : SzT Try.prog 25 1 := ⟨_, rfl, rfl⟩

def vd (M : Nat → Prop) (w0 : World) (vg0 : Nat) (pa0 : Option Addr) (pn0 pc0 : Nat) (va0x1 : Option Addr) (vn0x1 vc0x1 : Nat) (va0x3 : Option Addr) (vn0x3 vc0x3 : Nat) (vf0x3 : List Nat) (vn0x4 : Nat) (vf0x4 : List Nat) (t : List Int) (b0 : Int × (List (Int × (List Int))) × Int × (List (List Int)) × (List (ByteArray × Int))) (r : (List (List Int)) × (List (ByteArray × Int))) (a : Act) (w : World) : Prop :=
  ∃ (σ : Nat → Value) (oa0x3 : Option Addr) (on0x3 : Nat) (oc0x3 : Nat) (of0x3 : List Nat) (on0x4 : Nat) (of0x4 : List Nat), a = fr 39 (ovl σ []) ∧ Chg ([vg0] ++ (vf0x3 ++ (vf0x4 ++ ([])))) w0 w ∧ BoxV w vg0 81 [(.int .i64 b0.1), (.slice va0x1 vn0x1 vc0x1), (.int .i64 b0.2.2.1), (.slice oa0x3 on0x3 oc0x3), (.map (some on0x4))] ∧ (RT.os 43 (RT.rs (RT.int .i64))).val M w (.slice oa0x3 on0x3 oc0x3) r.1 of0x3 ∧ (RT.mo (Value.int .i64)).val M w (.map (some on0x4)) r.2 of0x4 ∧ Own (Nw w0 ([vg0] ++ (vf0x3 ++ (vf0x4 ++ ([]))))) (fun _ => True) w ([vg0] ++ (of0x3 ++ (of0x4 ++ ([]))))
def ZO (t : List Int) (b0 : Int × (List (Int × (List Int))) × Int × (List (List Int)) × (List (ByteArray × Int))) : Option ((List (List Int)) × (List (ByteArray × Int))) :=
  (Zu t).bind fun r11 =>
  (bif (!((mget b0.2.2.2.2 r11).isSome)) then (Zu t).bind fun r19 =>
  (app b0.2.2.2.1 ([t])).bind fun y24 =>
  some (y24, mput b0.2.2.2.2 r19 (b0.2.2.2.1.length : Int)) else some (b0.2.2.2.1, b0.2.2.2.2))
set_option maxHeartbeats 4000000 in
theorem Xr {M : Nat → Prop} {w : World} {vg0 : Nat} {pa0 : Option Addr} {pn0 pc0 : Nat} {va0x1 : Option Addr} {vn0x1 vc0x1 : Nat} {va0x3 : Option Addr} {vn0x3 vc0x3 : Nat} {vf0x3 : List Nat} {vn0x4 : Nat} {vf0x4 : List Nat} (t : List Int) (b0 : Int × (List (Int × (List Int))) × Int × (List (List Int)) × (List (ByteArray × Int))) (h0 : rl.val M w (.slice pa0 pn0 pc0) t ([])) (hb0 : BoxV w vg0 81 [(iv b0.1), (.slice va0x1 vn0x1 vc0x1), (iv b0.2.2.1), (.slice va0x3 vn0x3 vc0x3), (.map (some vn0x4))]) (hl0x1 : (RT.rs (RT.pr ri rl)).val M w (.slice va0x1 vn0x1 vc0x1) b0.2.1 ([])) (hl0x3 : (RT.os 43 rl).val M w (.slice va0x3 vn0x3 vc0x3) b0.2.2.2.1 vf0x3) (hl0x4 : (RT.mo (Value.int .i64)).val M w (.map (some vn0x4)) b0.2.2.2.2 vf0x4) (hI : Own (Nw w ([vg0] ++ (vf0x3 ++ (vf0x4 ++ ([]))))) M w ([vg0] ++ (vf0x3 ++ (vf0x4 ++ ([]))))) (hM : ∀ g, w.heap.size ≤ g → M g) {r : (List (List Int)) × (List (ByteArray × Int))} (hs : ZO t b0 = some r) :
    Gives Try.prog 98 [(pq vg0 0), (.slice pa0 pn0 pc0)] w (fun v w' => ∃ (oa0x3 : Option Addr) (on0x3 : Nat) (oc0x3 : Nat) (of0x3 : List Nat) (on0x4 : Nat) (of0x4 : List Nat), v = (.tuple #[]) ∧ Chg ([vg0] ++ (vf0x3 ++ (vf0x4 ++ ([])))) w w' ∧ BoxV w' vg0 81 [(iv b0.1), (.slice va0x1 vn0x1 vc0x1), (iv b0.2.2.1), (.slice oa0x3 on0x3 oc0x3), (.map (some on0x4))] ∧ (RT.os 43 rl).val M w' (.slice oa0x3 on0x3 oc0x3) r.1 of0x3 ∧ (RT.mo (Value.int .i64)).val M w' (.map (some on0x4)) r.2 of0x4 ∧ Own (Nw w ([vg0] ++ (vf0x3 ++ (vf0x4 ++ ([]))))) (fun _ => True) w' ([vg0] ++ (of0x3 ++ (of0x4 ++ ([]))))) := by
 refine zr Try.func98 rfl Try.ntmps98 (Nat.le_of_ble_eq_true rfl) ?_
 have hO := hI
 have hC := Chg.refl ([vg0] ++ (vf0x3 ++ (vf0x4 ++ ([])))) w
 unfold ZO at hs
 refine wp_mono (Q := XM (vd M w vg0 pa0 pn0 pc0 va0x1 vn0x1 vc0x1 va0x3 vn0x3 vc0x3 vf0x3 vn0x4 vf0x4 t b0 r)) ?_ (fun e a d7 h => ?_)
 rotate_left
 ·cases e
  case ret =>
   obtain ⟨σ, oa0x3, on0x3, oc0x3, of0x3, on0x4, of0x4, rfl, hrest⟩ := h
   exact Wp Try.results98  ⟨oa0x3, on0x3, oc0x3, of0x3, on0x4, of0x4, rfl, hrest⟩
  case normal =>
   obtain ⟨σ, oa0x3, on0x3, oc0x3, of0x3, on0x4, of0x4, rfl, hrest⟩ := h
   exact WM Try.results98  ⟨oa0x3, on0x3, oc0x3, of0x3, on0x4, of0x4, rfl, hrest⟩
  all_goals exact (h : False).elim
 refine zd (Ze [] Mx rfl ?_)
 have a2 := Chg.drew w
 generalize World.drew w = c5 at a2 ⊢
 obtain ⟨h0, hl0x1, hl0x3, hl0x4, hb0, hC, hO⟩ := xt7 a2 h0 hl0x1 hl0x3 hl0x4 hb0 hC hO
 have hS := Chg.refl [] c5
 refine xmp 0 rfl rfl hS (xq 1 _ rfl (Zw rfl) hS (xq 2 (pq vg0 4) rfl (zk rfl VH) hS (xl 3 rfl (ldx rfl Ag79 Sz79 hb0 rfl) hS (xms 4 rfl rfl hS (zP (i := 5) (by kernel_rfl) ?_)))))
 obtain ⟨r11, c6, hs⟩ := bind_some hs
 refine zZ (b := false) rfl  Bd59 rfl (xg (M := M) t h0 hO.fut c6) rfl (by rintro _ _ _ ⟨rfl, a0⟩; exact hS.ext a0) ?_
 rintro _ b9 ⟨rfl, a0⟩
 obtain ⟨h0, hl0x1, hl0x3, hl0x4, hb0, hC, hO, hS⟩ := xt8 a0 h0 hl0x1 hl0x3 hl0x4 hb0 hC hO hS
 refine zP (i := 6) (by kernel_rfl) (zS (b := false) (.tuple #[(iv ((mget b0.2.2.2.2 r11).getD 0)), (.bool ((mget b0.2.2.2.2 r11).isSome))]) rfl  (y_look2 (enc := (Value.int .i64)) Try.underlying79 Try.underlying9 Zv3 (mo_at hl0x4) rfl rfl) rfl (fun _ => hS) (xq 7 (.tuple #[(iv ((mget b0.2.2.2.2 r11).getD 0)), (.bool ((mget b0.2.2.2.2 r11).isSome))]) rfl (zt rfl) hS (xq 8 (iv ((mget b0.2.2.2.2 r11).getD 0)) rfl (zO rfl (by kernel_rfl)) hS (xq 9 (.bool ((mget b0.2.2.2.2 r11).isSome)) rfl (zO rfl (by kernel_rfl)) hS (xq 10 (iv ((mget b0.2.2.2.2 r11).getD 0)) rfl (zE rfl) hS (xq 11 (.bool ((mget b0.2.2.2.2 r11).isSome)) rfl (zE rfl) hS (Zc (by kernel_rfl) ?_)))))))
 clear hS
 refine c_sr (mb rfl (za _ (ZQ rfl) (zb ?_)))
 rcases zf hs with ⟨b5, hs⟩ | ⟨b5, hs⟩
 ·refine zg (cb b5) (zd (Ze [11] Mx rfl ?_))
  have a3 := Chg.drew b9
  generalize World.drew b9 = c7 at a3 ⊢
  obtain ⟨h0, hl0x1, hl0x3, hl0x4, hb0, hC, hO⟩ := xt7 a3 h0 hl0x1 hl0x3 hl0x4 hb0 hC hO
  have hS := Chg.refl [] c7
  refine xmp 0 rfl rfl hS (xq 1 _ rfl (Zw rfl) hS (xq 2 (pq vg0 4) rfl (zk rfl VH) hS (xl 3 rfl (ldx rfl Ag79 Sz79 hb0 rfl) hS (xms 4 rfl rfl hS (xmp 6 rfl rfl hS (xq 7 _ rfl (Zw rfl) hS (xq 8 (pq vg0 3) rfl (zk rfl Yt) hS (xl 9 rfl (ldx rfl Ag25 Sz25 hb0 rfl) hS (xq 10 _ rfl (zn Sl25 (ZV hl0x3) rfl) hS (zP (i := 5) (by kernel_rfl) ?_))))))))))
  obtain ⟨r19, c8, hs⟩ := bind_some hs
  refine zZ (b := false) rfl  Bd59 rfl (xg (M := M) t h0 hO.fut c8) rfl (by rintro _ _ _ ⟨rfl, a1⟩; exact hS.ext a1) ?_
  rintro _ d8 ⟨rfl, a1⟩
  obtain ⟨h0, hl0x1, hl0x3, hl0x4, hb0, hC, hO, hS⟩ := xt8 a1 h0 hl0x1 hl0x3 hl0x4 hb0 hC hO hS
  refine zP (i := 11) (by kernel_rfl) ?_
  have hO := hO.fr2
  obtain ⟨c0, c9, a6, a4⟩ := mo_put (P := Try.prog) (t := 79) (key := r19) (x := (b0.2.2.2.1.length : Int)) Try.underlying79 Try.underlying9 hl0x4
  refine Ug (w' := c0) (b := true) rfl (ys_put rfl rfl rfl c9) rfl (fun h => nomatch h) ?_
  have h0 := h0.mt a6 hO zj
  have hl0x1 := hl0x1.mt a6 hO zj
  have hl0x3 := hl0x3.ma a6 hO zj (fun _ e => (zl (zm (e))))
  have hb0 := hb0.ap a6 hO zj (zm (List.mem_singleton.2 rfl))
  have hC := hC.st a6 hO zj
  have hO := hO.ext a6
  refine Zc (by kernel_rfl) ?_
  clear hS
  refine ze (mp rfl (mp rfl (za _ (Zw rfl) (za (pq vg0 3) (zk rfl Yt) (za _ (ld rfl Ag25 Sz25 hb0 rfl) (ms rfl ?_))))))
  obtain ⟨c1, b6, d0, c2, a5, c3⟩ := zi c0 [(.slice pa0 pn0 pc0)] 43
  refine za (w' := c1) (.slice (some ⟨b6, 0, none⟩) 1 1) (zG rfl (by rw [d0, c2]; kernel_rfl)) ?_
  obtain ⟨h0, hl0x1, hl0x3, a4, hb0, hC⟩ := xt6 a5 h0 hl0x1 hl0x3 a4 hb0 hC
  have hO := hO.new1 a5 c2 c3.lt
  have b7 := zT (r := rl) (M := M) (css := [[(.slice pa0 pn0 pc0)]]) (fps := [([] : List Nat)]) (xs := ([t] : List (List Int))) c3 ⟨(yq h0), trivial⟩ (Nat.le_of_ble_eq_true rfl) (List.nodup_cons.2 ⟨(fun h => nomatch h), List.nodup_nil⟩)
  have b7 : (RT.os 43 rl).val M c1 (.slice (some ⟨b6, 0, none⟩) 1 1) [t] [b6] := b7
  obtain ⟨y24, d1, hs⟩ := bind_some hs
  have hO := hO.fr3
  obtain ⟨b2, b3, b4, d2, d3, d4, a7, d5, a9⟩ := Yc Rw25 d1 hl0x3 b7 hO.inM (fun g hg hq => hO.apart g hq (zm hg))
  have b1 := zA hl0x3
  refine za (w' := d2) (.slice b2 b3 b4) (zU rfl rfl (d4 _)) ?_
  have hO := hO.fr1.fr1
  have h0 := h0.mt a7 hO b1
  have hl0x1 := hl0x1.mt a7 hO b1
  have a4 := a4.ma a7 hO b1 (fun _ e => (zl (zm (e))))
  have hb0 := hb0.ap a7 hO b1 (zl (zl (zm (List.mem_singleton.2 rfl))))
  have hC := hC.st a7 hO b1
  have hO := hO.eat a7 d5 (zw a9) a9.fpl
  refine za _ (Zw rfl) (za (pq vg0 3) (zk rfl Yt) ?_)
  obtain ⟨c4, d6, a8, b8⟩ := ZA (P := Try.prog) hb0 [(iv b0.1), (.slice va0x1 vn0x1 vc0x1), (iv b0.2.2.1)] [(.slice va0x3 vn0x3 vc0x3)] [(.map (some vn0x4))] [(.slice b2 b3 b4)] rfl rfl (by intro u hu; simp only [List.mem_cons, List.not_mem_nil, or_false] at hu; rcases hu with rfl <;> rfl)
  refine Zk (w' := c4) (zV rfl rfl (d6 _ _ rfl Sz25)) ?_
  have hO := hO.fr2
  have h0 := h0.mt a8 hO zj
  have hl0x1 := hl0x1.mt a8 hO zj
  have a4 := a4.ma a8 hO zj (fun _ e => (zl (zm (e))))
  have a9 := a9.ma a8 hO zj (fun _ e => (zm (e)))
  have hC := hC.st a8 hO zj
  have hO := hO.ext a8
  have b8 : BoxV c4 vg0 81 [(iv b0.1), (.slice va0x1 vn0x1 vc0x1), (iv b0.2.2.1), (.slice b2 b3 b4), (.map (some vn0x4))] := b8
  refine zb ?_
  cases hs
  have hO := hO.fr2.fr2.fr2
  exact ⟨_, b2, b3, b4, d3, vn0x4, vf0x4, zD 39 trivial, hC, b8, a9, a4, hO.top⟩
 refine zh (cb b5) (wp_skip ?_)
 cases hs
 have hO := hO.fr2.fr2.fr2
 exact ⟨_, va0x3, vn0x3, vc0x3, vf0x3, vn0x4, vf0x4, zD 39 trivial, hC, hb0, hl0x3, hl0x4, hO.top⟩

def Xb (M : Nat → Prop) (w0 : World) (r : Int) (a : Act) (w : World) : Prop :=
  ∃ (σ : Nat → Value) , a = fr 23 (ovl σ [(2, (.int .i64 r))]) ∧ Chg [] w0 w
def yt (a_ : Int × (List (Int × (List Int)))) : Option (Int) :=
  (forR (S := Int) (R := Int) (fun _ x11 s8 =>
  some (.nx (max s8 x11.1))) 0 a_.2 0).bind fun o12 => after o12 (fun r_ => some r_) (fun s8 =>
  (bif (s8 == 3) then some 40 else (bif (s8 == 2) then some 200 else some 300)))
set_option maxHeartbeats 4000000 in
theorem Xg {M : Nat → Prop} {w : World} {pa0 : Option Addr} {pn0 pc0 : Nat} (a_ : Int × (List (Int × (List Int)))) (h0 : (RT.rs (RT.pr ri rl)).val M w (.slice pa0 pn0 pc0) a_.2 ([])) (hM : ∀ g, w.heap.size ≤ g → M g) {r : Int} (hs : yt a_ = some r) :
    Gives Try.prog 100 [(.agg #[(iv a_.1), (.slice pa0 pn0 pc0)])] w (fun v w' => v = (iv r) ∧ Chg [] w w') := by
 refine zr Try.func100 rfl Try.ntmps100 (Nat.le_of_ble_eq_true rfl) ?_
 have hO := Own.start (N := Nw w []) hM Nw.fut
 have hC := Chg.refl [] w
 unfold yt at hs
 refine wp_k (K := (Xb M w r)) (by rintro _ _ ⟨σ, rfl, hrest⟩; exact Zh Try.results100 (zB rfl) ⟨rfl, hrest⟩) (c_sr ?_)
 obtain ⟨c1, b4, c2, b5, a8, b6⟩ := zi w [(iv a_.1), (.slice pa0 pn0 pc0)] 35
 refine za (w' := c1) (pq b4 0) (ZW rfl (by rw [c2, b5]; kernel_rfl)) ?_
 obtain ⟨h0, hC⟩ := xt2 a8 h0 hC
 have hO := hO.new1 a8 b5 b6.lt
 refine ai rfl (zb (c_sr (ai rfl (zb (zd (c_sr (za (pq b4 1) (zk rfl ZD) (za _ (ld rfl Ag33 Sz33 b6 rfl) (za _ (zn Sl33 (zu h0) rfl) (mi rfl (zb ?_)))))))))))
 have hO := hO.drop
 obtain ⟨o12, c3, hs⟩ := bind_some hs
 refine wp_block (YM (id := 0) (I := fun i_ xs_ s8 a a0 => ∃ a1 : Nat, i_ = (a1 : Int) ∧ List.drop a1 a_.2 = xs_ ∧ (∃ (σ : Nat → Value), a = fr 23 (ovl σ [(3, (iv s8)), (7, (.slice pa0 pn0 pc0)), (8, (iv (a_.2.length : Int))), (9, (iv (a1 : Int)))]) ∧ Chg [] w a0 ∧ Own (Nw w []) M a0 ([]) ∧ (RT.rs (RT.pr ri rl)).val M a0 (.slice pa0 pn0 pc0) a_.2 ([]))) (J := fun s8 a a0 => ∃ (σ : Nat → Value), a = fr 23 (ovl σ [(3, (iv s8))]) ∧ Chg [] w a0 ∧ Own (Nw w []) M a0 ([]) ∧ (RT.rs (RT.pr ri rl)).val M a0 (.slice pa0 pn0 pc0) a_.2 ([])) (K := (Xb M w)) ?_ ?_ a_.2 0 0 o12 _ _ ?_ c3 ?_)
 ·rintro _ s8 a a0 ⟨a1, rfl, hd, σ, rfl, hC, hO, h0⟩
  have hlt := yb hd
  refine c_sr (za _ (zx rfl rfl) (zb (zd (zh (cb (decide_eq_false hlt)) (wp_exit ?_)))))
  exact ⟨rfl, _, fr_m 23 rfl, hC, hO, h0⟩
 ·rintro _ x11 xs_ s8 o12 a a0 ⟨a1, rfl, hd, σ, rfl, hC, hO, h0⟩ hs
  have hlt := ZJ hd
  have c4 := Zz hd
  refine c_sr (za _ (zx rfl rfl) (zb (zd (zg (cb (decide_eq_true hlt)) (wp_skip (zd (wp_block (c_sr ?_))))))))
  obtain ⟨c5, c6, c7, a9⟩ := zN Sl33 Sz89 h0 c4
  refine za _ (c7 _ _ _ _ _ _ _ _ _ rfl rfl) ?_
  obtain ⟨d7, c8, c9⟩ := Zj Ag89 Sz89 (by intro h; cases h) a9
  obtain ⟨d8, rfl, d0⟩ := c9
  obtain ⟨d9, e0, rfl, d1, d2⟩ := Yz d0
  obtain rfl := YN d1
  obtain ⟨a3, a4, a5, rfl, a6⟩ := xp d2
  refine za (.agg #[(iv x11.1), (.slice a3 a4 a5)]) (zo rfl (c8 _ (Chg.refl _ _))) ?_
  obtain ⟨d3, b0, d4, b7, a2, b8⟩ := zi a0 [(iv 0), (.slice none 0 0)] 89
  refine za (w' := d3) (pq b0 0) (xa (by rw [d4, b7]; kernel_rfl)) ?_
  obtain ⟨h0, a6, a9, hC⟩ := xt4 a2 h0 a6 a9 hC
  have hO := hO.new1 a2 b7 b8.lt
  obtain ⟨b9, d5, a7, b1⟩ := ZA (P := Try.prog) b8 [] [(iv 0), (.slice none 0 0)] [] [(iv x11.1), (.slice a3 a4 a5)] rfl rfl (by intro u hu; simp only [List.mem_cons, List.not_mem_nil, or_false] at hu; rcases hu with rfl | rfl <;> rfl)
  refine Zk (w' := b9) (zV rfl rfl (d5 _ _ rfl Sz89)) ?_
  have h0 := h0.mt a7 hO zj
  have a6 := a6.mt a7 hO zj
  have hC := hC.st a7 hO zj
  have hO := hO.ext a7
  have b1 : BoxV b9 b0 89 [(iv x11.1), (.slice a3 a4 a5)] := b1
  refine zb (ze (mi rfl (za (pq b0 0) (zk rfl yM) (za _ (ld rfl Ag3 Sz3 b1 rfl) (za (iv (max s8 x11.1)) (y_max rfl rfl) (ai rfl (zb (ze (za _ (yad rfl rfl) (mi rfl (zb ?_)))))))))))
  cases hs
  have hO := hO.drop
  exact ⟨_, rfl, Zq hd, _, zD 23 ⟨rfl, rfl, rfl, congrArg (Value.int .i64) (Yh hlt (Int.natCast_nonneg _) (XO h0)), trivial⟩, hC, hO, h0⟩
 ·skip
  exact ⟨0, rfl, rfl, _, fr_m 23 rfl, hC, hO, h0⟩
 cases o12 with
 | nx _ => exact True.intro
 | rt r_ =>
  have hs := zp hs
  intro d6 c0 hK
  cases hs
  exact hK
 | br s8 =>
  have hs := zq hs
  rintro d6 a0 ⟨σ, rfl, hC, hO, h0⟩
  refine zd (c_sr (mi rfl (zb (wp_block (c_sr (za (.bool (s8 == 3)) (xz rfl rfl) (ab rfl (zb ?_))))))))
  rcases zf hs with ⟨b2, hs⟩ | ⟨b2, hs⟩
  ·refine zg (cb b2) (c_sr (ai rfl (zb (wp_ret ?_))))
   cases hs
   exact ⟨_, fr_m 23 rfl, hC⟩
  refine zh (cb b2) (c_sr (za (.bool (s8 == 2)) (xz rfl rfl) (ab rfl (zb ?_))))
  rcases zf hs with ⟨b3, hs⟩ | ⟨b3, hs⟩
  ·refine zg (cb b3) (c_sr (ai rfl (zb (wp_ret ?_))))
   cases hs
   exact ⟨_, fr_m 23 rfl, hC⟩
  refine zh (cb b3) (wp_skip (c_sr (ai rfl (zb (wp_ret ?_)))))
  cases hs
  exact ⟨_, fr_m 23 rfl, hC⟩

end Go.Proofs
