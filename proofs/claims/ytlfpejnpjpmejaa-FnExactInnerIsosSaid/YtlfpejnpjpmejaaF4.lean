/- What functions of the program compute, as plain functions, and that a call gives just that. Conditions: those named in each theorem. -/
import Derived.Test.YtlfpejnpjpmejaaF3
set_option linter.unusedVariables false
namespace Go.Proofs
open Go.G Go.RowKit
set_option maxRecDepth 100000

theorem Fx100 : ∀ args W, (callFunc 100 args).run Try.prog W = (((Extern.ReflectliteSwapper.swapper "internal/reflectlite" (Extern.ReflectliteValue.valueError "Swapper")) args).run Try.prog W).andThen fun v w' => .ok (.value v) w' := fun args W => run_callFunc_extern Try.func100 (by kernel_rfl) (by kernel_rfl) (by kernel_rfl) (e := (Extern.ReflectliteSwapper.swapper "internal/reflectlite" (Extern.ReflectliteValue.valueError "Swapper"))) (by kernel_rfl) args W

theorem Ke25 : ∀ w, (Extern.Rtype.kind 25).run Try.prog w = .ok 23 w := fun _ => by kernel_rfl

theorem Ag116 : AggT Try.prog 116 true := fun _ => by kernel_rfl

theorem Fx102 : ∀ args W, (callFunc 102 args).run Try.prog W = (((Extern.ReflectliteValue.method (Extern.ReflectliteValue.valueError "reflectlite.Value.Len" 0) Extern.ReflectliteValue.len) args).run Try.prog W).andThen fun v w' => .ok (.value v) w' := fun args W => run_callFunc_extern Try.func102 (by kernel_rfl) (by kernel_rfl) (by kernel_rfl) (e := (Extern.ReflectliteValue.method (Extern.ReflectliteValue.valueError "reflectlite.Value.Len" 0) Extern.ReflectliteValue.len)) (by kernel_rfl) args W

theorem Pk49 : Try.prog.packed 49 = false := by kernel_rfl

theorem Bd101 : Bodied Try.prog 101 := bodied Try.func101 (by kernel_rfl) rfl

def k_sort_SliceStable (M : Nat → Prop) (w0 : World) {α_ : Type} (I_ : World → List α_ → Prop) (G_ : List Nat) (r : (List α_)) (a : Act) (w : World) : Prop :=
  ∃ (σ : Nat → Value) , a = fr 16 (ovl σ []) ∧ Chg (G_ ++ ([])) w0 w ∧ I_ w r
def s_sort_SliceStable {α_ : Type} (ls_ : α_ → α_ → Option Bool) (d_ : List α_) (n_ : Nat) : Option ((List α_)) :=
  (s_sort_stable_func ls_ d_ (n_ : Int)).bind fun r7 =>
  some r7
set_option maxHeartbeats 4000000 in
theorem c_sort_SliceStable {M : Nat → Prop} {w : World} {a_ : Option Addr} {c_ : Nat} {ie_ : TypeInfo} {α_ : Type} {n0_ : Nat} {I_ : World → List α_ → Prop} {G_ : List Nat} {g_ sf_ : Nat} {lb_ : Array Value} (ls_ : α_ → α_ → Option Bool) (d_ : List α_) (n_ : Nat) (hN_ : n0_ ≤ w.heap.size) (hie_ : Try.prog.info? 25 = some ie_) (hf_ : Try.prog.funcs.findIdx? (·.name == "internal/reflectlite" ++ ".Swapper$" ++ toString (Go.Lib.swapperK n_ ie_ 23)) = some sf_) (hE_ : Env Try.prog n0_ I_ G_ ls_ g_ lb_ sf_ (if Go.Lib.swapperK n_ ie_ 23 ≤ 2 then #[] else #[.slice a_ n_ c_, typeHandle Try.prog 25])) (hI_ : I_ w d_) (hI : Own (Nw w (G_ ++ ([]))) M w (G_ ++ ([]))) (hM : ∀ g, w.heap.size ≤ g → M g) {r : (List α_)} (hs : s_sort_SliceStable ls_ d_ n_ = some r) :
    Gives Try.prog 94 [(.iface 49 (.slice a_ n_ c_)), (.func (.func g_) #[] lb_)] w (fun v w' => v = (.tuple #[]) ∧ Chg (G_ ++ ([])) w w' ∧ I_ w' r) := by
 refine calls_fr Try.func94 rfl Try.ntmps94 (Nat.le_of_ble_eq_true rfl) ?_
 have hO := hI
 have hC := Chg.refl (G_ ++ ([])) w
 unfold s_sort_SliceStable at hs
 refine wp_mono (Q := KPostN (k_sort_SliceStable M w I_ G_ r)) ?_ (fun e a w1 h => ?_)
 rotate_left
 ·cases e
  case ret =>
   obtain ⟨σ, rfl, hrest⟩ := h
   exact ret0x Try.results94  ⟨rfl, hrest⟩
  case normal =>
   obtain ⟨σ, rfl, hrest⟩ := h
   exact ret0n Try.results94  ⟨rfl, hrest⟩
  all_goals exact (h : False).elim
 refine c_seq (c_region ?_)
 refine pl_val (.iface 49 (.slice a_ n_ c_)) (y_move rfl) ?_
 obtain ⟨i1, hi1, hd1⟩ := Ti49
 obtain ⟨w1, g1, ew1, eg1, hC1, hb1⟩ := new_block w [(.slice a_ n_ c_)] 49
 refine pl_val (w' := w1) (.agg #[(typeHandle Try.prog 49), (.pointer (some ⟨g1, 0, none⟩)), (.int .u64 151)]) (y_callg rfl rfl (by rw [Fx99]; show Result.andThen (Sem.run Try.prog (Extern.ReflectliteValue.unpack (.iface 49 (.slice a_ n_ c_))) _) _ = _; rw [Go.Lib.run_valueOf_slice 49 25 i1 hi1 hd1, ew1, eg1]; rfl)) ?_
 have hI_ := hE_.ext hI_ hC1 (fun _ h => nomatch h)
 have hC := hC.ext hC1
 have hO := hO.new1 hC1 eg1 hb1.lt
 obtain ⟨w2, g2, ew2, eg2, hC2, hb2⟩ := new_block w1 [(.pointer none), (.pointer none), (.int .u64 0)] 116
 refine pl_val (w' := w2) (.pointer (some ⟨g2, 0, none⟩)) (y_alloc (by rw [ew2, eg2]; kernel_rfl)) ?_
 have hI_ := hE_.ext hI_ hC2 (fun _ h => nomatch h)
 have hb1 := hb1.chg hC2 (fun h => nomatch h)
 have hC := hC.ext hC2
 have hO := hO.new1 hC2 eg2 hb2.lt
 obtain ⟨w3, hst3, hC3, hb3⟩ := box_store (P := Try.prog) hb2 [] [(.pointer none), (.pointer none), (.int .u64 0)] [] [(typeHandle Try.prog 49), (.pointer (some ⟨g1, 0, none⟩)), (.int .u64 151)] rfl rfl (by intro u hu; simp only [List.mem_cons, List.not_mem_nil, or_false] at hu; rcases hu with rfl | rfl | rfl <;> rfl)
 refine pl_skip (w' := w3) (ys_store rfl rfl (hst3 _ _ rfl Sz116)) ?_
 have hI_ := hE_.ext hI_ hC3 (fun q hq => Nat.le_trans hN_ ((hO.inN q ((fun _ h => h) q hq)).resolve_left (fun e => hO.apart q ((fun _ h => h) q hq) (mem_r (mem_l (nil_mem q e))))))
 have hb1 := hb1.chg hC3 (fun hg => hO.apart _ ((fun _ h => h) _ hg) (mem_l (List.mem_singleton.2 rfl)))
 have hC := hC.step hC3 (fun g hg => hO.inN g ((fun _ h => h) g hg))
 have hO := hO.ext hC3
 have hb3 : BoxV w3 g2 116 [(typeHandle Try.prog 49), (.pointer (some ⟨g1, 0, none⟩)), (.int .u64 151)] := hb3
 refine c_nil ?_
 refine c_seq (c_region ?_)
 refine pl_val (.iface 49 (.slice a_ n_ c_)) (y_move rfl) ?_
 obtain ⟨i4, hi4, hd4⟩ := Ti49
 refine pl_val (.func (.func sf_) #[] (if Go.Lib.swapperK n_ ie_ 23 ≤ 2 then #[] else #[.slice a_ n_ c_, typeHandle Try.prog 25])) ((y_callg rfl rfl (by rw [Fx100]; show Result.andThen (Sem.run Try.prog (Extern.ReflectliteSwapper.swapper "internal/reflectlite" (Extern.ReflectliteValue.valueError "Swapper") #[(.iface 49 (.slice a_ n_ c_))]) _) _ = _; rw [Go.Lib.run_swapper_slice 49 25 i4 ie_ hi4 hd4 hie_ 23 Ke25 a_ n_ c_ sf_ hf_]; rfl))) ?_
 refine pl_val (.func (.func sf_) #[] (if Go.Lib.swapperK n_ ie_ 23 ≤ 2 then #[] else #[.slice a_ n_ c_, typeHandle Try.prog 25])) (y_assign rfl) ?_
 refine c_nil ?_
 refine c_region ?_
 refine pl_val (.func (.func g_) #[] lb_) (y_move rfl) ?_
 refine pl_val (.func (.func sf_) #[] (if Go.Lib.swapperK n_ ie_ 23 ≤ 2 then #[] else #[.slice a_ n_ c_, typeHandle Try.prog 25])) (y_move rfl) ?_
 refine pl_val (.agg #[(.func (.func g_) #[] lb_), (.func (.func sf_) #[] (if Go.Lib.swapperK n_ ie_ 23 ≤ 2 then #[] else #[.slice a_ n_ c_, typeHandle Try.prog 25]))]) (y_build rfl (by kernel_rfl)) ?_
 refine pl_val (.agg #[(typeHandle Try.prog 49), (.pointer (some ⟨g1, 0, none⟩)), (.int .u64 151)]) (y_load rfl ((box_load Ag116 Sz116 hb3 [] [(typeHandle Try.prog 49), (.pointer (some ⟨g1, 0, none⟩)), (.int .u64 151)] [] rfl rfl (fun h => nomatch h)) _ (Chg.refl _ _))) ?_
 obtain ⟨i5, hi5, hd5⟩ := Ti49
 refine pl_val (.int .i64 (n_ : Int)) ((y_callg rfl rfl (by rw [Fx102]; show Result.andThen (Sem.run Try.prog (Extern.ReflectliteValue.method (Extern.ReflectliteValue.valueError "reflectlite.Value.Len" 0) Extern.ReflectliteValue.len #[(.agg #[(typeHandle Try.prog 49), (.pointer (some ⟨g1, 0, none⟩)), (.int .u64 151)])]) _) _ = _; rw [Go.Lib.run_valueLen_slice 49 25 i5 hi5 hd5 Pk49 _ _ _ _ _ (box_cell hb1)]; rfl))) ?_
 have hO := hO.fr2
 have hI6 := Own.lend (F := (G_ ++ ([]))) (R := ([g2]) ++ (([g1]) ++ ([]))) (Own.perm hO (by simp))
 obtain ⟨r7, hr7, hs⟩ := bind_some hs
 refine pl_call Bd101 rfl (c_sort_stable_func (M := M) ls_ d_ (n_ : Int) (Nat.le_trans hN_ hC.size) hE_ hI_ hI6 hO.fut hr7) ?_
 rintro _ w6 ⟨rfl, hC6, hv6⟩
 have hb1 := hb1.chg hC6 (fun hg => hO.apart _ (nil_mem _ hg) (mem_r (mem_l (List.mem_singleton.2 rfl))))
 have hb3 := hb3.chg hC6 (fun hg => hO.apart _ (nil_mem _ hg) (mem_l (List.mem_singleton.2 rfl)))
 have hC := hC.step hC6 (fun g hg => hO.inN g (nil_mem g hg))
 have hO := hO.ext hC6
 refine c_nil ?_
 cases hs
 exact ⟨_, fr_ovl 16 trivial, hC, hv6⟩

theorem Ei25 : ∃ ie, Try.prog.info? 25 = some ie ∧ ie.size = 1 ∧ ie.hasPointers = true ∧ (ie.bytes == 8) = false := ⟨(Try.prog.info? 25).get (by kernel_rfl), by kernel_rfl, by kernel_rfl, by kernel_rfl, by kernel_rfl⟩

theorem Fs2 : ∀ W, (callFunc 105 #[.int .i64 0, .int .i64 0]).run Try.prog W = .ok (.value (.tuple #[])) W := fun W => (run_callFunc_extern Try.func105 (by kernel_rfl) (by kernel_rfl) (by kernel_rfl) (e := (Extern.find Try.f105).get (by kernel_rfl)) (by kernel_rfl) _ W).trans (by kernel_rfl)

theorem Fx112 : ∀ args W, (callFunc 112 args).run Try.prog W = (((Extern.ReflectliteSwapper.swap false) args).run Try.prog W).andThen fun v w' => .ok (.value v) w' := fun args W => run_callFunc_extern Try.func112 (by kernel_rfl) (by kernel_rfl) (by kernel_rfl) (e := (Extern.ReflectliteSwapper.swap false)) (by kernel_rfl) args W

theorem Sn1 : Try.prog.funcs.findIdx? (·.name == "internal/reflectlite" ++ ".Swapper$" ++ toString 1) = some 104 := by kernel_rfl

theorem Sn2 : Try.prog.funcs.findIdx? (·.name == "internal/reflectlite" ++ ".Swapper$" ++ toString 2) = some 105 := by kernel_rfl

theorem Sn9 : Try.prog.funcs.findIdx? (·.name == "internal/reflectlite" ++ ".Swapper$" ++ toString 9) = some 112 := by kernel_rfl

theorem Bd95 : Bodied Try.prog 95 := bodied Try.func95 (by kernel_rfl) rfl

theorem Bd94 : Bodied Try.prog 94 := bodied Try.func94 (by kernel_rfl) rfl

def k_impl_sortRows__impl_compareTerms (M : Nat → Prop) (w0 : World) (qa0 : Option Addr) (qn0 qc0 : Nat) (qf0 : List Nat) (r : (List (List Int))) (a : Act) (w : World) : Prop :=
  ∃ (σ : Nat → Value) (rfi0 : List Nat), a = fr 8 (ovl σ []) ∧ Chg (qf0 ++ ([])) w0 w ∧ (RT.os 25 (RT.os 3 (RT.int .i64))).val M w (.slice qa0 qn0 qc0) r rfi0 ∧ Own (Nw w0 (qf0 ++ ([]))) (fun _ => True) w (rfi0 ++ ([]))
def s_impl_sortRows__impl_compareTerms (rows : List (List Int)) : Option ((List (List Int))) :=
  (s_sort_SliceStable (fun x_ y_ => (s_impl_compareTerms x_ y_).bind fun r_ => some (decide (r_ < 0))) rows (rows.length)).bind fun r5 =>
  some r5
set_option maxHeartbeats 4000000 in
theorem c_impl_sortRows__impl_compareTerms {M : Nat → Prop} {w : World} {pa0 : Option Addr} {pn0 pc0 : Nat} {pf0 : List Nat} (rows : List (List Int)) (h0 : (RT.os 25 (RT.os 3 (RT.int .i64))).val M w (.slice pa0 pn0 pc0) rows pf0) (hI : Own (Nw w (pf0 ++ ([]))) M w (pf0 ++ ([]))) (hM : ∀ g, w.heap.size ≤ g → M g) {r : (List (List Int))} (hs : s_impl_sortRows__impl_compareTerms rows = some r) :
    Gives Try.prog 77 [(.slice pa0 pn0 pc0), (.func (.func 78) #[] #[])] w (fun v w' => ∃ (rfi0 : List Nat), v = (.tuple #[]) ∧ Chg (pf0 ++ ([])) w w' ∧ (RT.os 25 (RT.os 3 (RT.int .i64))).val M w' (.slice pa0 pn0 pc0) r rfi0 ∧ Own (Nw w (pf0 ++ ([]))) (fun _ => True) w' (rfi0 ++ ([]))) := by
 refine calls_fr Try.func77 rfl Try.ntmps77 (Nat.le_of_ble_eq_true rfl) ?_
 have hO := hI
 have hC := Chg.refl (pf0 ++ ([])) w
 unfold s_impl_sortRows__impl_compareTerms at hs
 refine wp_mono (Q := KPostN (k_impl_sortRows__impl_compareTerms M w pa0 pn0 pc0 pf0 r)) ?_ (fun e a w1 h => ?_)
 rotate_left
 ·cases e
  case ret =>
   obtain ⟨σ, rfi0, rfl, hrest⟩ := h
   exact ret0x Try.results77  ⟨rfi0, rfl, hrest⟩
  case normal =>
   obtain ⟨σ, rfi0, rfl, hrest⟩ := h
   exact ret0n Try.results77  ⟨rfi0, rfl, hrest⟩
  all_goals exact (h : False).elim
 refine c_seq (c_region ?_)
 obtain ⟨w2, g2, ew2, eg2, hC2, hb2⟩ := new_block w [(.slice pa0 pn0 pc0)] 49
 refine pl_val (w' := w2) (.pointer (some ⟨g2, 0, none⟩)) (y_box rfl (by rw [ew2, eg2]; kernel_rfl)) ?_
 have h0 := h0.ext hC2
 have hC := hC.ext hC2
 have hO := hO.new1 hC2 eg2 hb2.lt
 obtain ⟨w3, g3, ew3, eg3, hC3, hb3⟩ := new_block w2 [(.func (.func 78) #[] #[])] 100
 refine pl_val (w' := w3) (.pointer (some ⟨g3, 0, none⟩)) (y_box rfl (by rw [ew3, eg3]; kernel_rfl)) ?_
 have h0 := h0.ext hC3
 have hb2 := hb2.chg hC3 (fun h => nomatch h)
 have hC := hC.ext hC3
 have hO := hO.new1 hC3 eg3 hb3.lt
 refine c_nil ?_
 refine c_region ?_
 refine pl_val (.slice pa0 pn0 pc0) (y_load rfl ((box_load Ag49 Sz49 hb2 [] [(.slice pa0 pn0 pc0)] [] rfl rfl (fun _ => rfl)) _ (Chg.refl _ _))) ?_
 refine pl_val (.iface 49 (.slice pa0 pn0 pc0)) (y_iface Try.underlying49 rfl) ?_
 refine pl_val (.func (.func 95) #[] #[(.pointer (some ⟨g3, 0, none⟩)), (.pointer (some ⟨g2, 0, none⟩))]) (y_func rfl rfl) ?_
 have hO := hO.fr2
 obtain ⟨ie4, hie4, hz4, hp4, hb4⟩ := Ei25
 have hl4 := os_n h0
 obtain ⟨sf4, hf4, hE4⟩ := sort_env (P := Try.prog) (ke := 23) (M := M) (gO := g3) (gR := g2) (tO := 100) (tR := 49) (fv := (.func (.func 78) #[] #[])) (ls := (fun x_ y_ => (s_impl_compareTerms x_ y_).bind fun r_ => some (decide (r_ < 0)))) (g := 95) (lb := #[(.pointer (some ⟨g3, 0, none⟩)), (.pointer (some ⟨g2, 0, none⟩))]) rfl hie4 hz4 Ag25 hp4 hb4 rfl Sn1 Sn2 Sn9 Fs2 Fx112 Bd95 hO.inM (fun hg => hO.apart _ hg (mem_l (List.mem_singleton.2 rfl))) (fun hg => hO.apart _ hg (mem_r (mem_l (List.mem_singleton.2 rfl)))) (fun h hm ho hr hf hl => c_impl_sortRows_1__impl_compareTerms (M := Less M _) _ _ _ ho (((Frz.os (Frz.os Frz.int))).val h Less.sub Less.not) hr (less_fut hf h.fpl) (show s_impl_sortRows_1__impl_compareTerms _ _ _ = some _ from hl)) h0 (n0 := (w3).heap.size) hO.lt hb3.lt hb2.lt hO.fut
 have hJ4 : SortI (RT.os 3 (RT.int .i64)) 25 M pa0 pn0 pc0 pf0 g3 g2 100 49 (.func (.func 78) #[] #[]) w3 rows := ⟨⟨_, h0, List.Perm.refl _⟩, hb3, hb2, hO.fut⟩
 have hI4 := Own.lend (F := (pf0 ++ ([]))) (R := ([g3]) ++ (([g2]) ++ ([]))) (Own.perm hO (by simp))
 obtain ⟨r5, hr5, hs⟩ := bind_some hs
 refine pl_call Bd94 rfl (c_sort_SliceStable (M := M) (fun x_ y_ => (s_impl_compareTerms x_ y_).bind fun r_ => some (decide (r_ < 0))) rows pn0 (Nat.le_refl _) hie4 hf4 hE4 hJ4 hI4 hO.fut (by rw [hl4]; exact hr5)) ?_
 rintro _ w4 ⟨rfl, hC4, ⟨⟨f4, hv4, hp4⟩, _, _, _⟩⟩
 have hb2 := hb2.chg hC4 (fun hg => hO.apart _ (nil_mem _ hg) (mem_r (mem_l (List.mem_singleton.2 rfl))))
 have hb3 := hb3.chg hC4 (fun hg => hO.apart _ (nil_mem _ hg) (mem_l (List.mem_singleton.2 rfl)))
 have hC := hC.step hC4 (fun g hg => hO.inN g (nil_mem g hg))
 have hO := hO.grow hC4 (fun q hq => .inl (hp4.mem_iff.1 hq)) (os_nodup hv4) hv4.fpl
 refine c_nil ?_
 cases hs
 have hO := hO.fr1
 have hO := hO.drop
 have hO := hO.fr1
 have hO := hO.drop
 exact ⟨_, f4, fr_ovl 8 trivial, hC, hv4, hO.top⟩

theorem Bd77 : Bodied Try.prog 77 := bodied Try.func77 (by kernel_rfl) rfl

theorem Sz51 : SzT Try.prog 51 2 := ⟨_, rfl, rfl⟩

theorem Fa51x1 : ∀ (a : Addr) (w : World), (Instr.fieldAt 51 (.pointer (some a)) 1).run Try.prog w = .ok (.pointer (some (a.add 1))) w := fun _ _ => by kernel_rfl

theorem Ag51 : AggT Try.prog 51 true := fun _ => by kernel_rfl

def k_impl_pairRelations (M : Nat → Prop) (w0 : World) (r : (List (Int × (List (List Int)))) × Bool) (a : Act) (w : World) : Prop :=
  ∃ (σ : Nat → Value) (ra0 : Option Addr) (rn0 rc0 : Nat) (rf0 : List Nat), a = fr 120 (ovl σ [(4, (.slice ra0 rn0 rc0)), (5, (.bool r.2))]) ∧ Chg [] w0 w ∧ (RT.os 51 (RT.pr (RT.int .i64) (RT.os 25 (RT.os 3 (RT.int .i64))))).val M w (.slice ra0 rn0 rc0) r.1 rf0 ∧ Own (Nw w0 []) (fun _ => True) w (rf0 ++ ([]))
def s_impl_pairRelations (n : Int) (ops : List (Int × (List Int))) : Option ((List (Int × (List (List Int)))) × Bool) :=
  (mks (w64 (n * n)) (false : Bool)).bind fun y3 =>
  (s_impl_closePairs__take2 n ops y3).bind fun r6 =>
  (s_impl_marked r6).bind fun r9 =>
  (idx ([r9]) 0).bind fun x15 =>
  (s_impl_keyOf x15).bind fun r20 =>
  (iter (S := (List (List Int)) × Int × (List (ByteArray × Bool))) (R := (List (Int × (List (List Int)))) × Bool) (fun s724 =>
  (bif (decide (s724.2.1 < (s724.1.length : Int))) then (forC (S := (List (List Int)) × (List (ByteArray × Bool))) (R := (List (Int × (List (List Int)))) × Bool) (fun k846 s844 =>
  (idx s844.1 s724.2.1).bind fun x856 =>
  (s_impl_hasNot x856 k846).bind fun r861 =>
  (bif (!r861) then some (.nx (s844.1, s844.2)) else (idx s844.1 s724.2.1).bind fun x863 =>
  (s_impl_marks x863 (w64 (n * n))).bind fun r868 =>
  (idx r868 k846).bind fun x870 =>
  (s_impl_closePairs__take2 n ops (List.set r868 (Int.toNat k846) true)).bind fun r874 =>
  (s_impl_marked r874).bind fun r877 =>
  (s_impl_keyOf r877).bind fun r880 =>
  (bif (!((mget s844.2 r880).getD false)) then (app s844.1 ([r877])).bind fun y904 =>
  some (y904, mput s844.2 r880 true) else some (s844.1, s844.2)).bind fun s893 =>
  (bif (decide (200 < (s893.1.length : Int))) then some (.rt ([], false)) else some (.nx (s893.1, s893.2))))) 0 (w64 (n * n)) (s724.1, s724.2.2)).bind fun o848 => after o848 (fun r_ => some (.rt r_)) (fun s844 =>
  some (.nx (s844.1, w64 (s724.2.1 + 1), s844.2))) else some (.br (s724.1, s724.2.1, s724.2.2)))) FU ([r9], 0, mput ([]) r20 true)).bind fun o728 => after o728 (fun r_ => some r_) (fun s724 =>
  (s_impl_sortRows__impl_compareTerms s724.1).bind fun r908 =>
  (forR (S := (List (Int × (List (List Int))))) (R := (List (Int × (List (List Int)))) × Bool) (fun _ x976 s973 =>
  (forR (S := (List (List Int))) (R := (List (Int × (List (List Int)))) × Bool) (fun _ x1019 s1016 =>
  (nz n).bind fun u1028 =>
  (nz n).bind fun u1029 =>
  (app s1016 ([[w64 (Int.tdiv x1019 n), Int.tmod x1019 n]])).bind fun y1035 =>
  some (.nx y1035)) 0 x976 ([])).bind fun o1020 => after o1020 (fun r_ => some (.rt r_)) (fun s1016 =>
  (app s973 ([(2, s1016)])).bind fun y1041 =>
  some (.nx y1041))) 0 r908 ([])).bind fun o977 => after o977 (fun r_ => some r_) (fun s973 =>
  some (s973, true)))
set_option maxHeartbeats 4000000 in
theorem c_impl_pairRelations {M : Nat → Prop} {w : World} {pa0 : Option Addr} {pn0 pc0 : Nat} (n : Int) (ops : List (Int × (List Int))) (h0 : (RT.rs (RT.pr (RT.int .i64) (RT.rs (RT.int .i64)))).val M w (.slice pa0 pn0 pc0) ops ([])) (hM : ∀ g, w.heap.size ≤ g → M g) {r : (List (Int × (List (List Int)))) × Bool} (hs : s_impl_pairRelations n ops = some r) :
    Gives Try.prog 60 [(.int .i64 n), (.slice pa0 pn0 pc0)] w (fun v w' => ∃ (ra0 : Option Addr) (rn0 rc0 : Nat) (rf0 : List Nat), v = (.tuple #[(.slice ra0 rn0 rc0), (.bool r.2)]) ∧ Chg [] w w' ∧ (RT.os 51 (RT.pr (RT.int .i64) (RT.os 25 (RT.os 3 (RT.int .i64))))).val M w' (.slice ra0 rn0 rc0) r.1 rf0 ∧ Own (Nw w []) (fun _ => True) w' (rf0 ++ ([]))) := by
 refine calls_fr Try.func60 rfl Try.ntmps60 (Nat.le_of_ble_eq_true rfl) ?_
 have hO := Own.start (N := Nw w []) hM Nw.fut
 have hC := Chg.refl [] w
 unfold s_impl_pairRelations at hs
 refine wp_mono (Q := KPost (k_impl_pairRelations M w r)) ?_ (fun e a w1 h => ?_)
 rotate_left
 ·cases e
  case ret =>
   obtain ⟨σ, ra0, rn0, rc0, rf0, rfl, hrest⟩ := h
   exact ret2x Try.results60 (res_tmp rfl) (res_tmp rfl) ⟨ra0, rn0, rc0, rf0, rfl, hrest⟩
  all_goals exact (h : False).elim
 refine c_seq (c_region ?_)
 refine pl_val (.slice none 0 0) (y_assign rfl) ?_
 refine pl_val (.bool false) (y_assign rfl) ?_
 refine c_nil ?_
 refine c_seq (c_region ?_)
 refine pl_val (.int .i64 n) (y_move rfl) ?_
 refine pl_val (.slice pa0 pn0 pc0) (y_move rfl) ?_
 refine pl_val (.int .i64 n) (y_move rfl) ?_
 refine pl_val (.int .i64 n) (y_move rfl) ?_
 refine pl_val (.int .i64 (w64 (n * n))) (y_mul rfl rfl) ?_
 obtain ⟨y3, hy3, hs⟩ := bind_some hs
 obtain ⟨a2, n2, c2, w2, f2, hm2, hC2, hfr2, hv2⟩ := mk_os (M := M) (w := w) (r := RT.bool) Rw86 hy3 (fun _ _ => ⟨rfl, rfl⟩)
 refine pl_val (w' := w2) (.slice a2 n2 c2) (y_make rfl rfl hm2) ?_
 have h0 := h0.ext hC2
 have hC := hC.ext hC2
 have hO := hO.new hC2 hfr2 (os_nodup hv2) hv2.fpl
 have hL5 := hO
 have hI5 := Own.lend (F := (f2 ++ ([]))) (R := []) (Own.perm (hL5) (by simp))
 obtain ⟨r6, hr6, hs⟩ := bind_some hs
 refine pl_call Bd74 rfl (c_impl_closePairs__take2 (M := M) n ops y3 h0 hv2 hI5 hI5.fut hr6) ?_
 rintro _ w5 ⟨a5x0, n5x0, c5x0, f5x0, rfl, hC5, hv5x0, hOc5⟩
 have hO := hO.perm (R := (f2 ++ ([])) ++ ([])) (by simp)
 have h0 := h0.mut hC5 (fun g hg => hO.inM g ((fun _ h => h) g hg)) (fun _ _ h => nomatch h)
 have hC := hC.step hC5 (fun g hg => hO.inN g ((fun _ h => h) g hg))
 have hO := Own.join hO hC5 hOc5
 have hO := hO.perm (R := f5x0 ++ ([])) (by simp)
 obtain ⟨r9, hr9, hs⟩ := bind_some hs
 refine pl_call Bd65 rfl (c_impl_marked (M := (Less M f5x0)) r6 (((Frz.os Frz.bool)).val hv5x0 Less.sub Less.not) hO.less.fut hr9) ?_
 rintro _ w8 ⟨a8x0, n8x0, c8x0, f8x0, rfl, hC8, hv8x0, hOc8⟩
 have h0 := h0.ext hC8
 have hv5x0 := hv5x0.ext hC8
 have hC := hC.ext hC8
 have hO := Own.join0 hO hC8 hOc8
 have hO := hO.perm (R := f8x0 ++ (f5x0 ++ ([]))) (by simp)
 have hv8x0 := hv8x0.free (M' := M) (Free.os Free.int)
 obtain ⟨w11, g11, ew11, eg11, hC11, hb11⟩ := new_block w8 [(.slice a8x0 n8x0 c8x0)] 25
 refine pl_val (w' := w11) (.slice (some ⟨g11, 0, none⟩) 1 1) (y_bslice rfl (by rw [ew11, eg11]; kernel_rfl)) ?_
 have h0 := h0.ext hC11
 have hv5x0 := hv5x0.ext hC11
 have hv8x0 := hv8x0.ext hC11
 have hC := hC.ext hC11
 have hO := hO.new1 hC11 eg11 hb11.lt
 have hO := hO.perm (R := (g11 :: ((f8x0) ++ ([]))) ++ (f5x0 ++ ([]))) (by simp)
 have hnd11 := hO.nd
 have hv11 := os_of_box (r := (RT.os 3 (RT.int .i64))) (M := M) (css := [[(.slice a8x0 n8x0 c8x0)]]) (fps := [(f8x0 : List Nat)]) (xs := ([r9] : List (List Int))) hb11 ⟨(os_unval hv8x0), trivial⟩ (Nat.le_of_ble_eq_true rfl) hnd11
 have hv11 : (RT.os 25 (RT.os 3 (RT.int .i64))).val M w11 (.slice (some ⟨g11, 0, none⟩) 1 1) [r9] (g11 :: ((f8x0) ++ ([]))) := hv11
 refine pl_val (.slice (some ⟨g11, 0, none⟩) 1 1) (y_assign rfl) ?_
 refine c_nil ?_
 refine c_seq (c_region ?_)
 obtain ⟨w13, b13, ew13, eb13, hC13, hv13⟩ := mo_make (enc := Value.bool) (M := M) w11
 refine pl_val (w' := w13) (.map (some b13)) (by rw [ew13, eb13]; exact y_mmap) ?_
 have h0 := h0.ext hC13
 have hv5x0 := hv5x0.ext hC13
 have hv11 := hv11.ext hC13
 have hC := hC.ext hC13
 have hO := hO.new (X' := [b13]) hC13 (fun q hq => by rw [List.mem_singleton.1 hq, eb13]; exact Nat.le_refl _) (List.nodup_cons.2 ⟨(fun h => nomatch h), List.nodup_nil⟩) hv13.fpl
 refine pl_val (.slice (some ⟨g11, 0, none⟩) 1 1) (y_move rfl) ?_
 obtain ⟨x15, hx15, hs⟩ := bind_some hs
 obtain ⟨g16, f16, hg16, hk16, hp16, ha16, hf16⟩ := os_idx Sl49 Sz25 hv11 hx15
 have hb16 := own_row (Frz.os Frz.int) ha16 hf16
 refine pl_val (.pointer (some ⟨g16, 0 + Int.toNat 0 * 1, none⟩)) (hp16 _ _ _ _ _ _ _ _ _ rfl rfl) ?_
 obtain ⟨v17, hl17, hrow17, hv17⟩ := at_load1 Ag25 Sz25 rfl rfl hb16
 obtain ⟨a17, n17, c17, rfl⟩ := rs_sl hv17
 refine pl_val (.slice a17 n17 c17) (y_load rfl (hl17 _ (Chg.refl _ _))) ?_
 have hO := hO.fr1
 obtain ⟨r20, hr20, hs⟩ := bind_some hs
 refine pl_call Bd68 rfl (c_impl_keyOf (M := (Less M (g11 :: ((f8x0) ++ ([]))))) x15 hv17 hO.less.fut hr20) ?_
 rintro _ w19 ⟨rfl, hC19⟩
 have h0 := h0.ext hC19
 have hv5x0 := hv5x0.ext hC19
 have hv11 := hv11.ext hC19
 have hv13 := hv13.ext hC19
 have hv17 := hv17.ext hC19
 have hrow17 := hrow17.chg hC19 (fun h => nomatch h)
 have hC := hC.ext hC19
 have hO := hO.ext hC19
 have hO := hO.fr1
 obtain ⟨w21, hst21, hC21, hv21⟩ := mo_put (P := Try.prog) (t := 88) (key := r20) (x := true) Try.underlying88 Try.underlying9 hv13
 refine pl_skip (w' := w21) (ys_ins rfl rfl rfl hst21) ?_
 have h0 := h0.mut hC21 (fun g hg => hO.inM g ((fun _ h => h) g hg)) (fun _ _ h => nomatch h)
 have hv5x0 := hv5x0.mut hC21 (fun g hg => hO.inM g ((fun _ h => h) g hg)) (fun g hg e => hO.apart g ((fun _ h => h) g hg) (mem_r (mem_l (e))))
 have hv11 := hv11.mut hC21 (fun g hg => hO.inM g ((fun _ h => h) g hg)) (fun g hg e => hO.apart g ((fun _ h => h) g hg) (mem_l (e)))
 have hv17 := hv17.mut hC21 (fun g hg => ⟨hO.inM g ((fun _ h => h) g hg), fun e => hO.apart g ((fun _ h => h) g hg) (mem_l (e))⟩) (fun _ _ h => nomatch h)
 have hC := hC.step hC21 (fun g hg => hO.inN g ((fun _ h => h) g hg))
 have hO := hO.ext hC21
 refine pl_val (.map (some b13)) (y_move rfl) ?_
 refine pl_val (.map (some b13)) (y_assign rfl) ?_
 refine c_nil ?_
 refine c_seq ?_
 refine c_seq (c_region ?_)
 refine pl_val (.int .i64 0) (y_assign rfl) ?_
 refine c_nil ?_
 have hO := hO.fr2
 have hO := hO.drop
 obtain ⟨o728, hl729, hs⟩ := bind_some hs
 refine wp_block ?_
 refine wp_iter (id := 0) (I := fun s724 a w725 => ∃ (σ : Nat → Value) (a730 : Option Addr) (n730 : Nat) (c730 : Nat) (f730 : List Nat) (f732 : List Nat), a = fr 120 (ovl σ [(0, (.int .i64 n)), (1, (.slice pa0 pn0 pc0)), (6, (.slice a730 n730 c730)), (7, (.map (some b13))), (8, (.int .i64 s724.2.1))]) ∧ Chg [] w w725 ∧ Own (Nw w []) M w725 (f730 ++ (f732 ++ [])) ∧ (RT.rs (RT.pr (RT.int .i64) (RT.rs (RT.int .i64)))).val M w725 (.slice pa0 pn0 pc0) ops ([]) ∧ (RT.mo Value.bool).val M w725 (.map (some b13)) s724.2.2 f732 ∧ (RT.os 25 (RT.os 3 (RT.int .i64))).val M w725 (.slice a730 n730 c730) s724.1 f730) (J := fun s724 a w725 => ∃ (σ : Nat → Value) (a733 : Option Addr) (n733 : Nat) (c733 : Nat) (f733 : List Nat) (f735 : List Nat), a = fr 120 (ovl σ [(0, (.int .i64 n)), (6, (.slice a733 n733 c733))]) ∧ Chg [] w w725 ∧ Own (Nw w []) M w725 (f733 ++ (f735 ++ [])) ∧ (RT.rs (RT.pr (RT.int .i64) (RT.rs (RT.int .i64)))).val M w725 (.slice pa0 pn0 pc0) ops ([]) ∧ (RT.mo Value.bool).val M w725 (.map (some b13)) s724.2.2 f735 ∧ (RT.os 25 (RT.os 3 (RT.int .i64))).val M w725 (.slice a733 n733 c733) s724.1 f733) (K := (k_impl_pairRelations M w)) ?_ FU ([r9], 0, mput ([]) r20 true) o728 _ _ ?_ hl729 ?_
 ·rintro s724 o728 a w725 ⟨σ, a730, n730, c730, f730, f732, rfl, hC, hO, h0, hv732, hv730⟩ hs
  refine c_seq ?_
  refine c_seq (c_region ?_)
  refine pl_val (.int .i64 s724.2.1) (y_move rfl) ?_
  refine pl_val (.slice a730 n730 c730) (y_move rfl) ?_
  refine pl_val (.int .i64 (s724.1.length : Int)) (y_len' Sl49 (os_len hv730) rfl) ?_
  refine pl_val (.bool (decide (s724.2.1 < (s724.1.length : Int)))) (y_lss rfl rfl) ?_
  refine c_nil ?_
  rcases bif_some hs with ⟨hc736, hs⟩ | ⟨hc736, hs⟩
  ·skip
   refine c_condT (congrArg Value.bool hc736) ?_
   refine wp_skip ?_
   refine c_seq ?_
   refine wp_block ?_
   refine c_seq (c_region ?_)
   refine pl_val (.int .i64 0) (y_assign rfl) ?_
   refine c_nil ?_
   obtain ⟨o848, hl849, hs⟩ := bind_some hs
   refine wp_block ?_
   refine wp_forC (id := 2) (w64 (n * n)) (I := fun k846 s844 a w845 => ∃ (σ : Nat → Value) (a850 : Option Addr) (n850 : Nat) (c850 : Nat) (f850 : List Nat) (f852 : List Nat), a = fr 120 (ovl σ [(0, (.int .i64 n)), (1, (.slice pa0 pn0 pc0)), (6, (.slice a850 n850 c850)), (7, (.map (some b13))), (8, (.int .i64 s724.2.1)), (9, (.int .i64 k846))]) ∧ Chg [] w w845 ∧ Own (Nw w []) M w845 (f850 ++ (f852 ++ [])) ∧ (RT.rs (RT.pr (RT.int .i64) (RT.rs (RT.int .i64)))).val M w845 (.slice pa0 pn0 pc0) ops ([]) ∧ (RT.mo Value.bool).val M w845 (.map (some b13)) s844.2 f852 ∧ (RT.os 25 (RT.os 3 (RT.int .i64))).val M w845 (.slice a850 n850 c850) s844.1 f850) (J := fun s844 a w845 => ∃ (σ : Nat → Value) (a853 : Option Addr) (n853 : Nat) (c853 : Nat) (f853 : List Nat) (f855 : List Nat), a = fr 120 (ovl σ [(0, (.int .i64 n)), (1, (.slice pa0 pn0 pc0)), (6, (.slice a853 n853 c853)), (7, (.map (some b13))), (8, (.int .i64 s724.2.1))]) ∧ Chg [] w w845 ∧ Own (Nw w []) M w845 (f853 ++ (f855 ++ [])) ∧ (RT.rs (RT.pr (RT.int .i64) (RT.rs (RT.int .i64)))).val M w845 (.slice pa0 pn0 pc0) ops ([]) ∧ (RT.mo Value.bool).val M w845 (.map (some b13)) s844.2 f855 ∧ (RT.os 25 (RT.os 3 (RT.int .i64))).val M w845 (.slice a853 n853 c853) s844.1 f853) (K := (k_impl_pairRelations M w)) ?_ ?_ 0 (s724.1, s724.2.2) o848 _ _ ?_ hl849 ?_
   ·rintro k846 s844 a w845 ⟨σ, a850, n850, c850, f850, f852, rfl, hC, hO, h0, hv852, hv850⟩ hlt
    refine c_seq ?_
    refine c_seq (c_region ?_)
    refine pl_val (.int .i64 k846) (y_move rfl) ?_
    refine pl_val (.int .i64 n) (y_move rfl) ?_
    refine pl_val (.int .i64 n) (y_move rfl) ?_
    refine pl_val (.int .i64 (w64 (n * n))) (y_mul rfl rfl) ?_
    refine pl_val (.bool (decide (k846 < (w64 (n * n))))) (y_lss rfl rfl) ?_
    refine c_nil ?_
    refine c_condF (congrArg Value.bool (decide_eq_false hlt)) ?_
    refine wp_exit ?_
    have hO := hO.fr1
    have hO := hO.fr1
    exact ⟨rfl, _, a850, n850, c850, f850, f852, fr_ovl 120 ⟨rfl, rfl, rfl, rfl, rfl, trivial⟩, hC, hO, h0, hv852, hv850⟩
   ·rintro k846 s844 o848 a w845 ⟨σ, a850, n850, c850, f850, f852, rfl, hC, hO, h0, hv852, hv850⟩ hlt hw hs
    refine c_seq ?_
    refine c_seq (c_region ?_)
    refine pl_val (.int .i64 k846) (y_move rfl) ?_
    refine pl_val (.int .i64 n) (y_move rfl) ?_
    refine pl_val (.int .i64 n) (y_move rfl) ?_
    refine pl_val (.int .i64 (w64 (n * n))) (y_mul rfl rfl) ?_
    refine pl_val (.bool (decide (k846 < (w64 (n * n))))) (y_lss rfl rfl) ?_
    refine c_nil ?_
    refine c_condT (congrArg Value.bool (decide_eq_true hlt)) ?_
    refine wp_skip ?_
    refine c_seq ?_
    refine wp_block ?_
    refine c_seq ?_
    refine c_seq (c_region ?_)
    refine pl_val (.slice a850 n850 c850) (y_move rfl) ?_
    refine pl_val (.int .i64 s724.2.1) (y_move rfl) ?_
    obtain ⟨x856, hx856, hs⟩ := bind_some hs
    obtain ⟨g857, f857, hg857, hk857, hp857, ha857, hf857⟩ := os_idx Sl49 Sz25 hv850 hx856
    have hb857 := own_row (Frz.os Frz.int) ha857 hf857
    refine pl_val (.pointer (some ⟨g857, 0 + Int.toNat s724.2.1 * 1, none⟩)) (hp857 _ _ _ _ _ _ _ _ _ rfl rfl) ?_
    obtain ⟨v858, hl858, hrow858, hv858⟩ := at_load1 Ag25 Sz25 rfl rfl hb857
    obtain ⟨a858, n858, c858, rfl⟩ := rs_sl hv858
    refine pl_val (.slice a858 n858 c858) (y_load rfl (hl858 _ (Chg.refl _ _))) ?_
    refine pl_val (.int .i64 k846) (y_move rfl) ?_
    obtain ⟨r861, hr861, hs⟩ := bind_some hs
    refine pl_call Bd75 rfl (c_impl_hasNot (M := (Less M f850)) x856 k846 hv858 hO.less.fut hr861) ?_
    rintro _ w860 ⟨rfl, hC860⟩
    have h0 := h0.ext hC860
    have hv852 := hv852.ext hC860
    have hv850 := hv850.ext hC860
    have hv858 := hv858.ext hC860
    have hrow858 := hrow858.chg hC860 (fun h => nomatch h)
    have hC := hC.ext hC860
    have hO := hO.ext hC860
    refine pl_val (.bool (!r861)) (y_not rfl) ?_
    refine c_nil ?_
    rcases bif_some hs with ⟨hc862, hs⟩ | ⟨hc862, hs⟩
    ·skip
     refine c_condT (congrArg Value.bool hc862) ?_
     refine wp_exit ?_
     refine c_region ?_
     refine pl_val (.int .i64 k846) (y_move rfl) ?_
     refine pl_val (.int .i64 (w64 (k846 + 1))) (y_add rfl rfl) ?_
     refine pl_val (.int .i64 (w64 (k846 + 1))) (y_assign rfl) ?_
     refine c_nil ?_
     cases hs
     have hO := hO.fr1
     have hO := hO.fr1
     exact ⟨_, a850, n850, c850, f850, f852, fr_ovl 120 ⟨rfl, rfl, rfl, rfl, rfl, congrArg (Value.int .i64) hw, trivial⟩, hC, hO, h0, hv852, hv850⟩
    ·skip
     refine c_condF (congrArg Value.bool hc862) ?_
     refine wp_skip ?_
     refine c_seq (c_region ?_)
     refine pl_val (.slice a850 n850 c850) (y_move rfl) ?_
     refine pl_val (.int .i64 s724.2.1) (y_move rfl) ?_
     obtain ⟨x863, hx863, hs⟩ := bind_some hs
     obtain ⟨g864, f864, hg864, hk864, hp864, ha864, hf864⟩ := os_idx Sl49 Sz25 hv850 hx863
     have hb864 := own_row (Frz.os Frz.int) ha864 hf864
     refine pl_val (.pointer (some ⟨g864, 0 + Int.toNat s724.2.1 * 1, none⟩)) (hp864 _ _ _ _ _ _ _ _ _ rfl rfl) ?_
     obtain ⟨v865, hl865, hrow865, hv865⟩ := at_load1 Ag25 Sz25 rfl rfl hb864
     obtain ⟨a865, n865, c865, rfl⟩ := rs_sl hv865
     refine pl_val (.slice a865 n865 c865) (y_load rfl (hl865 _ (Chg.refl _ _))) ?_
     refine pl_val (.int .i64 n) (y_move rfl) ?_
     refine pl_val (.int .i64 n) (y_move rfl) ?_
     refine pl_val (.int .i64 (w64 (n * n))) (y_mul rfl rfl) ?_
     obtain ⟨r868, hr868, hs⟩ := bind_some hs
     refine pl_call Bd76 rfl (c_impl_marks (M := (Less M f850)) x863 (w64 (n * n)) hv865 hO.less.fut hr868) ?_
     rintro _ w867 ⟨a867x0, n867x0, c867x0, f867x0, rfl, hC867, hv867x0, hOc867⟩
     have h0 := h0.ext hC867
     have hv852 := hv852.ext hC867
     have hv850 := hv850.ext hC867
     have hv865 := hv865.ext hC867
     have hrow865 := hrow865.chg hC867 (fun h => nomatch h)
     have hC := hC.ext hC867
     have hO := Own.join0 hO hC867 hOc867
     have hO := hO.perm (R := f867x0 ++ (f850 ++ (f852 ++ ([])))) (by simp)
     have hv867x0 := hv867x0.free (M' := M) (Free.os Free.bool)
     refine pl_val (.slice a867x0 n867x0 c867x0) (y_assign rfl) ?_
     refine c_nil ?_
     refine c_seq (c_region ?_)
     refine pl_val (.slice a867x0 n867x0 c867x0) (y_move rfl) ?_
     refine pl_val (.int .i64 k846) (y_move rfl) ?_
     obtain ⟨x870, hx870, hs⟩ := bind_some hs
     obtain ⟨g871, f871, hg871, hk871, hp871, ha871, hf871⟩ := os_idx Sl86 Sz4 hv867x0 hx870
     refine pl_val (.pointer (some ⟨g871, 0 + Int.toNat k846 * 1, none⟩)) (hp871 _ _ _ _ _ _ _ _ _ rfl rfl) ?_
     obtain ⟨w872, f872, hst872, hC872, hf872, hv872⟩ := os_store (P := Try.prog) (c' := [(.bool true)]) hg871 hv867x0 hk871 (fun g hg => hO.inM g (os_block hv867x0 g (by simpa using hg))) ⟨rfl, rfl⟩ List.nodup_nil (fun _ h => nomatch h) (fun _ h => .inl h)
     have hG872 : ∀ q ∈ [g871], q ∈ f867x0 := fun q hq => os_block hv867x0 q (by rw [hg871]; exact hq)
     refine pl_skip (w' := w872) (ys_store rfl rfl (hst872 _ _ rfl Sz4)) ?_
     have h0 := h0.mut hC872 (fun g hg => hO.inM g (hG872 g hg)) (fun _ _ h => nomatch h)
     have hv852 := hv852.mut hC872 (fun g hg => hO.inM g (hG872 g hg)) (fun g hg e => hO.apart g (hG872 g hg) (mem_r (mem_l (e))))
     have hv850 := hv850.mut hC872 (fun g hg => hO.inM g (hG872 g hg)) (fun g hg e => hO.apart g (hG872 g hg) (mem_l (e)))
     have hC := hC.step hC872 (fun g hg => hO.inN g (hG872 g hg))
     have hO := hO.grow hC872 (fun q hq => .inl ((hf872 q hq).resolve_right (fun h => nomatch h))) (os_nodup hv872) hv872.fpl
     refine c_nil ?_
     refine c_seq (c_region ?_)
     refine pl_val (.int .i64 n) (y_move rfl) ?_
     refine pl_val (.slice pa0 pn0 pc0) (y_move rfl) ?_
     refine pl_val (.slice a867x0 n867x0 c867x0) (y_move rfl) ?_
     have hL873 := hO
     have hI873 := Own.lend (F := (f872 ++ ([]))) (R := f850 ++ (f852 ++ ([]))) (Own.perm (hL873) (by simp))
     obtain ⟨r874, hr874, hs⟩ := bind_some hs
     refine pl_call Bd74 rfl (c_impl_closePairs__take2 (M := M) n ops (List.set r868 (Int.toNat k846) true) h0 hv872 hI873 hI873.fut hr874) ?_
     rintro _ w873 ⟨a873x0, n873x0, c873x0, f873x0, rfl, hC873, hv873x0, hOc873⟩
     have hO := hO.perm (R := (f872 ++ ([])) ++ (f850 ++ (f852 ++ ([])))) (by simp)
     have h0 := h0.mut hC873 (fun g hg => hO.inM g ((fun _ h => h) g hg)) (fun _ _ h => nomatch h)
     have hv852 := hv852.mut hC873 (fun g hg => hO.inM g ((fun _ h => h) g hg)) (fun g hg e => hO.apart g ((fun _ h => h) g hg) (mem_r (mem_l (e))))
     have hv850 := hv850.mut hC873 (fun g hg => hO.inM g ((fun _ h => h) g hg)) (fun g hg e => hO.apart g ((fun _ h => h) g hg) (mem_l (e)))
     have hC := hC.step hC873 (fun g hg => hO.inN g ((fun _ h => h) g hg))
     have hO := Own.join hO hC873 hOc873
     have hO := hO.perm (R := f873x0 ++ (f850 ++ (f852 ++ ([])))) (by simp)
     obtain ⟨r877, hr877, hs⟩ := bind_some hs
     refine pl_call Bd65 rfl (c_impl_marked (M := (Less M f873x0)) r874 (((Frz.os Frz.bool)).val hv873x0 Less.sub Less.not) hO.less.fut hr877) ?_
     rintro _ w876 ⟨a876x0, n876x0, c876x0, f876x0, rfl, hC876, hv876x0, hOc876⟩
     have h0 := h0.ext hC876
     have hv852 := hv852.ext hC876
     have hv850 := hv850.ext hC876
     have hv873x0 := hv873x0.ext hC876
     have hC := hC.ext hC876
     have hO := Own.join0 hO hC876 hOc876
     have hO := hO.perm (R := f876x0 ++ (f873x0 ++ (f850 ++ (f852 ++ ([]))))) (by simp)
     have hv876x0 := hv876x0.free (M' := M) (Free.os Free.int)
     refine pl_val (.slice a876x0 n876x0 c876x0) (y_assign rfl) ?_
     refine c_nil ?_
     refine c_seq ?_
     refine c_seq (c_region ?_)
     refine pl_val (.slice a876x0 n876x0 c876x0) (y_move rfl) ?_
     obtain ⟨r880, hr880, hs⟩ := bind_some hs
     refine pl_call Bd68 rfl (c_impl_keyOf (M := (Less M f876x0)) r877 (((Frz.os Frz.int)).val hv876x0 Less.sub Less.not) hO.less.fut hr880) ?_
     rintro _ w879 ⟨rfl, hC879⟩
     have h0 := h0.ext hC879
     have hv852 := hv852.ext hC879
     have hv850 := hv850.ext hC879
     have hv873x0 := hv873x0.ext hC879
     have hv876x0 := hv876x0.ext hC879
     have hC := hC.ext hC879
     have hO := hO.ext hC879
     refine pl_val (.string r880) (y_assign rfl) ?_
     refine c_nil ?_
     refine c_seq (c_region ?_)
     refine pl_val (.map (some b13)) (y_move rfl) ?_
     refine pl_val (.string r880) (y_move rfl) ?_
     refine pl_val (.bool ((mget s844.2 r880).getD false)) (y_look (enc := Value.bool) Try.underlying88 Try.underlying9 Zv4 (mo_at hv852) rfl rfl) ?_
     refine pl_val (.bool (!((mget s844.2 r880).getD false))) (y_not rfl) ?_
     refine c_nil ?_
     obtain ⟨s893, hm895, hs⟩ := bind_some hs
     refine c_mid (I := fun a w894 => ∃ (σ : Nat → Value) (a896 : Option Addr) (n896 : Nat) (c896 : Nat) (f896 : List Nat) (f898 : List Nat), a = fr 120 (ovl σ [(0, (.int .i64 n)), (1, (.slice pa0 pn0 pc0)), (6, (.slice a896 n896 c896)), (7, (.map (some b13))), (8, (.int .i64 s724.2.1)), (9, (.int .i64 k846))]) ∧ Chg [] w w894 ∧ Own (Nw w []) M w894 (f896 ++ (f898 ++ [])) ∧ (RT.rs (RT.pr (RT.int .i64) (RT.rs (RT.int .i64)))).val M w894 (.slice pa0 pn0 pc0) ops ([]) ∧ (RT.mo Value.bool).val M w894 (.map (some b13)) s893.2 f898 ∧ (RT.os 25 (RT.os 3 (RT.int .i64))).val M w894 (.slice a896 n896 c896) s893.1 f896) ?_ ?_
     ·replace hs := hm895
      rcases bif_some hs with ⟨hc899, hs⟩ | ⟨hc899, hs⟩
      ·skip
       refine c_condT (congrArg Value.bool hc899) ?_
       refine c_seq (c_region ?_)
       refine pl_val (.map (some b13)) (y_move rfl) ?_
       refine pl_val (.string r880) (y_move rfl) ?_
       have hO := hO.fr3
       obtain ⟨w900, hst900, hC900, hv900⟩ := mo_put (P := Try.prog) (t := 88) (key := r880) (x := true) Try.underlying88 Try.underlying9 hv852
       refine pl_skip (w' := w900) (ys_put rfl rfl rfl hst900) ?_
       have h0 := h0.mut hC900 (fun g hg => hO.inM g ((fun _ h => h) g hg)) (fun _ _ h => nomatch h)
       have hv850 := hv850.mut hC900 (fun g hg => hO.inM g ((fun _ h => h) g hg)) (fun g hg e => hO.apart g ((fun _ h => h) g hg) (mem_r (mem_r (mem_l (e)))))
       have hv873x0 := hv873x0.mut hC900 (fun g hg => hO.inM g ((fun _ h => h) g hg)) (fun g hg e => hO.apart g ((fun _ h => h) g hg) (mem_r (mem_l (e))))
       have hv876x0 := hv876x0.mut hC900 (fun g hg => hO.inM g ((fun _ h => h) g hg)) (fun g hg e => hO.apart g ((fun _ h => h) g hg) (mem_l (e)))
       have hC := hC.step hC900 (fun g hg => hO.inN g ((fun _ h => h) g hg))
       have hO := hO.ext hC900
       refine c_nil ?_
       refine c_region ?_
       refine pl_val (.slice a850 n850 c850) (y_move rfl) ?_
       refine pl_val (.slice a876x0 n876x0 c876x0) (y_move rfl) ?_
       obtain ⟨w901, g901, ew901, eg901, hC901, hb901⟩ := new_block w900 [(.slice a876x0 n876x0 c876x0)] 25
       refine pl_val (w' := w901) (.slice (some ⟨g901, 0, none⟩) 1 1) (y_bslice rfl (by rw [ew901, eg901]; kernel_rfl)) ?_
       have h0 := h0.ext hC901
       have hv900 := hv900.ext hC901
       have hv850 := hv850.ext hC901
       have hv873x0 := hv873x0.ext hC901
       have hv876x0 := hv876x0.ext hC901
       have hC := hC.ext hC901
       have hO := hO.fr1
       have hO := hO.new1 hC901 eg901 hb901.lt
       have hO := hO.perm (R := (g901 :: ((f876x0) ++ ([]))) ++ (f852 ++ (f873x0 ++ (f850 ++ ([]))))) (by simp)
       have hnd901 := hO.nd
       have hv901 := os_of_box (r := (RT.os 3 (RT.int .i64))) (M := M) (css := [[(.slice a876x0 n876x0 c876x0)]]) (fps := [(f876x0 : List Nat)]) (xs := ([r877] : List (List Int))) hb901 ⟨(os_unval hv876x0), trivial⟩ (Nat.le_of_ble_eq_true rfl) hnd901
       have hv901 : (RT.os 25 (RT.os 3 (RT.int .i64))).val M w901 (.slice (some ⟨g901, 0, none⟩) 1 1) [r877] (g901 :: ((f876x0) ++ ([]))) := hv901
       obtain ⟨y904, hy904, hs⟩ := bind_some hs
       have hO := hO.fr3
       obtain ⟨a903, n903, c903, w903, f903, hr903, hC903, hf903, hv903⟩ := app_os Rw49 hy904 hv850 hv901 hO.inM (fun g hg hq => hO.apart g hq (mem_l hg))
       have hG903 := os_block hv850
       refine pl_val (w' := w903) (.slice a903 n903 c903) (y_append rfl rfl (hr903 _)) ?_
       have hO := hO.fr1
       have hO := hO.fr1
       have h0 := h0.mut hC903 (fun g hg => hO.inM g (hG903 g hg)) (fun _ _ h => nomatch h)
       have hv900 := hv900.mut hC903 (fun g hg => hO.inM g (hG903 g hg)) (fun g hg e => hO.apart g (hG903 g hg) (mem_r (mem_l (e))))
       have hv873x0 := hv873x0.mut hC903 (fun g hg => hO.inM g (hG903 g hg)) (fun g hg e => hO.apart g (hG903 g hg) (mem_r (mem_r (mem_l (e)))))
       have hC := hC.step hC903 (fun g hg => hO.inN g (hG903 g hg))
       have hO := hO.eat hC903 hf903 (os_nodup hv903) hv903.fpl
       refine pl_val (.slice a903 n903 c903) (y_assign rfl) ?_
       refine c_nil ?_
       cases hs
       have hO := hO.fr2
       have hO := hO.drop
       have hO := hO.fr1
       have hO := hO.fr1
       exact ⟨_, a903, n903, c903, f903, f852, fr_ovl 120 ⟨rfl, rfl, rfl, rfl, rfl, rfl, trivial⟩, hC, hO, h0, hv900, hv903⟩
      ·skip
       refine c_condF (congrArg Value.bool hc899) ?_
       refine wp_skip ?_
       cases hs
       have hO := hO.drop
       have hO := hO.drop
       have hO := hO.fr1
       have hO := hO.fr1
       exact ⟨_, a850, n850, c850, f850, f852, fr_ovl 120 ⟨rfl, rfl, rfl, rfl, rfl, rfl, trivial⟩, hC, hO, h0, hv852, hv850⟩
     ·rintro a1 w894 ⟨σ, a896, n896, c896, f896, f898, rfl, hC, hO, h0, hv898, hv896⟩
      refine c_seq (c_region ?_)
      refine pl_val (.slice a896 n896 c896) (y_move rfl) ?_
      refine pl_val (.int .i64 (s893.1.length : Int)) (y_len' Sl49 (os_len hv896) rfl) ?_
      refine pl_val (.bool (decide (200 < (s893.1.length : Int)))) (y_gtr rfl rfl) ?_
      refine c_nil ?_
      rcases bif_some hs with ⟨hc906, hs⟩ | ⟨hc906, hs⟩
      ·skip
       refine c_condT (congrArg Value.bool hc906) ?_
       refine c_seq (c_region ?_)
       refine pl_val (.slice none 0 0) (y_assign rfl) ?_
       refine pl_val (.bool false) (y_assign rfl) ?_
       refine c_nil ?_
       refine wp_ret ?_
       cases hs
       have hO := hO.drop
       have hO := hO.drop
       have hO := hO.nil
       exact ⟨_, none, 0, 0, [], fr_ovl 120 ⟨rfl, rfl, trivial⟩, hC, os_nil, hO.top⟩
      ·skip
       refine c_condF (congrArg Value.bool hc906) ?_
       refine wp_skip ?_
       refine c_region ?_
       refine pl_val (.int .i64 k846) (y_move rfl) ?_
       refine pl_val (.int .i64 (w64 (k846 + 1))) (y_add rfl rfl) ?_
       refine pl_val (.int .i64 (w64 (k846 + 1))) (y_assign rfl) ?_
       refine c_nil ?_
       cases hs
       have hO := hO.fr1
       have hO := hO.fr1
       exact ⟨_, a896, n896, c896, f896, f898, fr_ovl 120 ⟨rfl, rfl, rfl, rfl, rfl, congrArg (Value.int .i64) hw, trivial⟩, hC, hO, h0, hv898, hv896⟩
   ·skip
    have hO := hO.fr1
    have hO := hO.fr1
    exact ⟨_, a730, n730, c730, f730, f732, fr_ovl 120 ⟨rfl, rfl, rfl, rfl, rfl, rfl, trivial⟩, hC, hO, h0, hv732, hv730⟩
   ·cases o848 with
    | nx _ => exact True.intro
    | rt r_ =>
     have hs := after_rt hs
     intro a1 w1 hK
     cases hs
     exact hK
    | br s844 =>
     have hs := after_br hs
     rintro a1 w845 ⟨σ, a853, n853, c853, f853, f855, rfl, hC, hO, h0, hv855, hv853⟩
     refine c_region ?_
     refine pl_val (.int .i64 s724.2.1) (y_move rfl) ?_
     refine pl_val (.int .i64 (w64 (s724.2.1 + 1))) (y_add rfl rfl) ?_
     refine pl_val (.int .i64 (w64 (s724.2.1 + 1))) (y_assign rfl) ?_
     refine c_nil ?_
     cases hs
     have hO := hO.fr1
     have hO := hO.fr1
     exact ⟨_, a853, n853, c853, f853, f855, fr_ovl 120 ⟨rfl, rfl, rfl, rfl, rfl, trivial⟩, hC, hO, h0, hv855, hv853⟩
  ·skip
   refine c_condF (congrArg Value.bool hc736) ?_
   refine wp_exit ?_
   cases hs
   have hO := hO.fr1
   have hO := hO.fr1
   exact ⟨rfl, _, a730, n730, c730, f730, f732, fr_ovl 120 ⟨rfl, rfl, trivial⟩, hC, hO, h0, hv732, hv730⟩
 ·skip
  have hO := hO.fr1
  exact ⟨_, (some ⟨g11, 0, none⟩), 1, 1, (g11 :: ((f8x0) ++ ([]))), [b13], fr_ovl 120 ⟨rfl, rfl, rfl, rfl, rfl, trivial⟩, hC, hO, h0, hv21, hv11⟩
 ·cases o728 with
  | nx _ => exact True.intro
  | rt r_ =>
   have hs := after_rt hs
   intro a1 w1 hK
   cases hs
   exact hK
  | br s724 =>
   have hs := after_br hs
   rintro a1 w725 ⟨σ, a733, n733, c733, f733, f735, rfl, hC, hO, h0, hv735, hv733⟩
   refine c_seq (c_region ?_)
   refine pl_val (.slice a733 n733 c733) (y_move rfl) ?_
   have hL907 := hO
   have hI907 := Own.lend (F := (f733 ++ ([]))) (R := f735 ++ ([])) (Own.perm (hL907) (by simp))
   obtain ⟨r908, hr908, hs⟩ := bind_some hs
   refine pl_call Bd77 rfl (c_impl_sortRows__impl_compareTerms (M := M) s724.1 hv733 hI907 hI907.fut hr908) ?_
   rintro _ w907 ⟨fi907x0, rfl, hC907, hvi907x0, hOc907⟩
   have hO := hO.perm (R := (f733 ++ ([])) ++ (f735 ++ ([]))) (by simp)
   have h0 := h0.mut hC907 (fun g hg => hO.inM g ((fun _ h => h) g hg)) (fun _ _ h => nomatch h)
   have hv735 := hv735.mut hC907 (fun g hg => hO.inM g ((fun _ h => h) g hg)) (fun g hg e => hO.apart g ((fun _ h => h) g hg) (mem_l (e)))
   have hC := hC.step hC907 (fun g hg => hO.inN g ((fun _ h => h) g hg))
   have hO := Own.join hO hC907 hOc907
   have hO := hO.perm (R := fi907x0 ++ (f735 ++ ([]))) (by simp)
   refine c_nil ?_
   refine c_seq (c_region ?_)
   obtain ⟨w909, g909, ew909, eg909, hC909, hb909⟩ := new_block w907 [] 51
   refine pl_val (w' := w909) (.slice (some ⟨g909, 0, none⟩) 0 0) (y_bslice rfl (by rw [ew909, eg909]; kernel_rfl)) ?_
   have hv735 := hv735.ext hC909
   have hvi907x0 := hvi907x0.ext hC909
   have hC := hC.ext hC909
   have hO := hO.new1 hC909 eg909 hb909.lt
   have hv909 := os_of_box (r := (RT.pr (RT.int .i64) (RT.os 25 (RT.os 3 (RT.int .i64))))) (M := M) (css := []) (fps := []) (xs := ([] : List (Int × (List (List Int))))) hb909 trivial (Nat.zero_le _) (List.nodup_cons.2 ⟨(fun h => nomatch h), List.nodup_nil⟩)
   have hv909 : (RT.os 51 (RT.pr (RT.int .i64) (RT.os 25 (RT.os 3 (RT.int .i64))))).val M w909 (.slice (some ⟨g909, 0, none⟩) 0 0) [] [g909] := hv909
   refine pl_val (.slice (some ⟨g909, 0, none⟩) 0 0) (y_assign rfl) ?_
   refine c_nil ?_
   refine c_seq ?_
   refine c_seq (c_region ?_)
   refine pl_val (.slice a733 n733 c733) (y_move rfl) ?_
   refine pl_val (.int .i64 (r908.length : Int)) (y_len' Sl49 (os_len hvi907x0) rfl) ?_
   refine pl_val (.int .i64 0) (y_move rfl) ?_
   refine c_nil ?_
   have hO := hO.fr2
   have hO := hO.drop
   obtain ⟨o977, hl978, hs⟩ := bind_some hs
   refine wp_block ?_
   refine wp_forR (id := 4) (I := fun i_ xs_ s973 a w974 => ∃ k975 : Nat, i_ = (k975 : Int) ∧ List.drop k975 r908 = xs_ ∧ (∃ (σ : Nat → Value) (a979 : Option Addr) (n979 : Nat) (c979 : Nat) (f979 : List Nat), a = fr 120 (ovl σ [(0, (.int .i64 n)), (13, (.slice a979 n979 c979)), (88, (.slice a733 n733 c733)), (89, (.int .i64 (r908.length : Int))), (90, (.int .i64 (k975 : Int)))]) ∧ Chg [] w w974 ∧ Own (Nw w []) M w974 (f979 ++ (fi907x0 ++ [])) ∧ (RT.os 25 (RT.os 3 (RT.int .i64))).val M w974 (.slice a733 n733 c733) r908 fi907x0 ∧ (RT.os 51 (RT.pr (RT.int .i64) (RT.os 25 (RT.os 3 (RT.int .i64))))).val M w974 (.slice a979 n979 c979) s973 f979)) (J := fun s973 a w974 => ∃ (σ : Nat → Value) (a981 : Option Addr) (n981 : Nat) (c981 : Nat) (f981 : List Nat), a = fr 120 (ovl σ [(13, (.slice a981 n981 c981))]) ∧ Chg [] w w974 ∧ Own (Nw w []) M w974 (f981 ++ (fi907x0 ++ [])) ∧ (RT.os 25 (RT.os 3 (RT.int .i64))).val M w974 (.slice a733 n733 c733) r908 fi907x0 ∧ (RT.os 51 (RT.pr (RT.int .i64) (RT.os 25 (RT.os 3 (RT.int .i64))))).val M w974 (.slice a981 n981 c981) s973 f981) (K := (k_impl_pairRelations M w)) ?_ ?_ r908 0 ([]) o977 _ _ ?_ hl978 ?_
   ·rintro _ s973 a w974 ⟨k975, rfl, hd, σ, a979, n979, c979, f979, rfl, hC, hO, hvi907x0, hv979⟩
    have hlt := drop_nil_ge hd
    refine c_seq (c_region ?_)
    refine pl_val (.bool (decide ((k975 : Int) < (r908.length : Int)))) (y_lss rfl rfl) ?_
    refine c_nil ?_
    refine c_seq ?_
    refine c_condF (congrArg Value.bool (decide_eq_false hlt)) ?_
    refine wp_exit ?_
    have hO := hO.fr1
    have hO := hO.fr1
    exact ⟨rfl, _, a979, n979, c979, f979, fr_ovl 120 ⟨rfl, trivial⟩, hC, hO, hvi907x0, hv979⟩
   ·rintro _ x976 xs_ s973 o977 a w974 ⟨k975, rfl, hd, σ, a979, n979, c979, f979, rfl, hC, hO, hvi907x0, hv979⟩ hs
    have hlt := drop_cons_lt hd
    have hxk975 := drop_cons_idx hd
    refine c_seq (c_region ?_)
    refine pl_val (.bool (decide ((k975 : Int) < (r908.length : Int)))) (y_lss rfl rfl) ?_
    refine c_nil ?_
    refine c_seq ?_
    refine c_condT (congrArg Value.bool (decide_eq_true hlt)) ?_
    refine wp_skip ?_
    refine c_seq ?_
    refine wp_block ?_
    refine c_seq (c_region ?_)
    obtain ⟨g983, f983, hg983, hk983, hp983, ha983, hf983⟩ := os_idx Sl49 Sz25 hvi907x0 hxk975
    have hb983 := own_row (Frz.os Frz.int) ha983 hf983
    refine pl_val (.pointer (some ⟨g983, 0 + Int.toNat (k975 : Int) * 1, none⟩)) (hp983 _ _ _ _ _ _ _ _ _ rfl rfl) ?_
    obtain ⟨v984, hl984, hrow984, hv984⟩ := at_load1 Ag25 Sz25 rfl rfl hb983
    obtain ⟨a984, n984, c984, rfl⟩ := rs_sl hv984
    refine pl_val (.slice a984 n984 c984) (y_load rfl (hl984 _ (Chg.refl _ _))) ?_
    refine pl_val (.slice a984 n984 c984) (y_assign rfl) ?_
    refine c_nil ?_
    refine c_seq (c_region ?_)
    refine pl_val (.agg #[(.int .i64 2), (.slice none 0 0)]) (y_build rfl (by kernel_rfl)) ?_
    obtain ⟨w986, g986, ew986, eg986, hC986, hb986⟩ := new_block w974 [(.int .i64 0), (.slice none 0 0)] 51
    refine pl_val (w' := w986) (.pointer (some ⟨g986, 0, none⟩)) (y_alloc (by rw [ew986, eg986]; kernel_rfl)) ?_
    have hvi907x0 := hvi907x0.ext hC986
    have hv979 := hv979.ext hC986
    have hv984 := hv984.ext hC986
    have hrow984 := hrow984.chg hC986 (fun h => nomatch h)
    have hC := hC.ext hC986
    have hO := hO.new1 hC986 eg986 hb986.lt
    obtain ⟨w987, hst987, hC987, hb987⟩ := box_store (P := Try.prog) hb986 [] [(.int .i64 0), (.slice none 0 0)] [] [(.int .i64 2), (.slice none 0 0)] rfl rfl (by intro u hu; simp only [List.mem_cons, List.not_mem_nil, or_false] at hu; rcases hu with rfl | rfl <;> rfl)
    refine pl_skip (w' := w987) (ys_store rfl rfl (hst987 _ _ rfl Sz51)) ?_
    have hvi907x0 := hvi907x0.mut hC987 (fun g hg => hO.inM g ((fun _ h => h) g hg)) (fun g hg e => hO.apart g ((fun _ h => h) g hg) (mem_r (mem_l (e))))
    have hv979 := hv979.mut hC987 (fun g hg => hO.inM g ((fun _ h => h) g hg)) (fun g hg e => hO.apart g ((fun _ h => h) g hg) (mem_l (e)))
    have hv984 := hv984.mut hC987 (fun g hg => ⟨hO.inM g ((fun _ h => h) g hg), fun e => hO.apart g ((fun _ h => h) g hg) (mem_r (mem_l (e)))⟩) (fun _ _ h => nomatch h)
    have hC := hC.step hC987 (fun g hg => hO.inN g ((fun _ h => h) g hg))
    have hO := hO.ext hC987
    have hb987 : BoxV w987 g986 51 [(.int .i64 2), (.slice none 0 0)] := hb987
    refine c_nil ?_
    refine c_seq ?_
    refine c_seq (c_region ?_)
    refine pl_val (.slice a984 n984 c984) (y_move rfl) ?_
    refine pl_val (.int .i64 (x976.length : Int)) (y_len' Sl25 (rs_len hv984) rfl) ?_
    refine pl_val (.int .i64 0) (y_move rfl) ?_
    refine c_nil ?_
    obtain ⟨o1020, hl1021, hs⟩ := bind_some hs
    refine wp_block ?_
    refine wp_forR (id := 6) (I := fun i_ xs_ s1016 a w1017 => ∃ k1018 : Nat, i_ = (k1018 : Int) ∧ List.drop k1018 x976 = xs_ ∧ (∃ (σ : Nat → Value) (a1022 : Option Addr) (n1022 : Nat) (c1022 : Nat) (f1022 : List Nat), a = fr 120 (ovl σ [(0, (.int .i64 n)), (13, (.slice a979 n979 c979)), (16, (.pointer (some ⟨g986, 0, none⟩))), (88, (.slice a733 n733 c733)), (89, (.int .i64 (r908.length : Int))), (90, (.int .i64 (k975 : Int))), (95, (.slice a984 n984 c984)), (96, (.int .i64 (x976.length : Int))), (97, (.int .i64 (k1018 : Int)))]) ∧ Chg [] w w1017 ∧ Own (Nw w []) M w1017 (f1022 ++ (([g986]) ++ (f979 ++ (fi907x0 ++ [])))) ∧ (RT.os 25 (RT.os 3 (RT.int .i64))).val M w1017 (.slice a733 n733 c733) r908 fi907x0 ∧ (RT.os 51 (RT.pr (RT.int .i64) (RT.os 25 (RT.os 3 (RT.int .i64))))).val M w1017 (.slice a979 n979 c979) s973 f979 ∧ (RT.rs (RT.int .i64)).val (Less M fi907x0) w1017 (.slice a984 n984 c984) x976 ([]) ∧ BoxV w1017 g986 51 [(.int .i64 2), (.slice a1022 n1022 c1022)] ∧ (RT.os 25 (RT.os 3 (RT.int .i64))).val M w1017 (.slice a1022 n1022 c1022) s1016 f1022)) (J := fun s1016 a w1017 => ∃ (σ : Nat → Value) (a1024 : Option Addr) (n1024 : Nat) (c1024 : Nat) (f1024 : List Nat), a = fr 120 (ovl σ [(0, (.int .i64 n)), (13, (.slice a979 n979 c979)), (16, (.pointer (some ⟨g986, 0, none⟩))), (88, (.slice a733 n733 c733)), (89, (.int .i64 (r908.length : Int))), (90, (.int .i64 (k975 : Int)))]) ∧ Chg [] w w1017 ∧ Own (Nw w []) M w1017 (f1024 ++ (([g986]) ++ (f979 ++ (fi907x0 ++ [])))) ∧ (RT.os 25 (RT.os 3 (RT.int .i64))).val M w1017 (.slice a733 n733 c733) r908 fi907x0 ∧ (RT.os 51 (RT.pr (RT.int .i64) (RT.os 25 (RT.os 3 (RT.int .i64))))).val M w1017 (.slice a979 n979 c979) s973 f979 ∧ (RT.rs (RT.int .i64)).val (Less M fi907x0) w1017 (.slice a984 n984 c984) x976 ([]) ∧ BoxV w1017 g986 51 [(.int .i64 2), (.slice a1024 n1024 c1024)] ∧ (RT.os 25 (RT.os 3 (RT.int .i64))).val M w1017 (.slice a1024 n1024 c1024) s1016 f1024) (K := (k_impl_pairRelations M w)) ?_ ?_ x976 0 ([]) o1020 _ _ ?_ hl1021 ?_
    ·rintro _ s1016 a w1017 ⟨k1018, rfl, hd, σ, a1022, n1022, c1022, f1022, rfl, hC, hO, hvi907x0, hv979, hv984, hb987, hv1022⟩
     have hlt := drop_nil_ge hd
     refine c_seq (c_region ?_)
     refine pl_val (.bool (decide ((k1018 : Int) < (x976.length : Int)))) (y_lss rfl rfl) ?_
     refine c_nil ?_
     refine c_seq ?_
     refine c_condF (congrArg Value.bool (decide_eq_false hlt)) ?_
     refine wp_exit ?_
     have hO := hO.fr3
     have hO := hO.fr3
     have hO := hO.fr3
     have hO := hO.fr3
     exact ⟨rfl, _, a1022, n1022, c1022, f1022, fr_ovl 120 ⟨rfl, rfl, rfl, rfl, rfl, rfl, trivial⟩, hC, hO, hvi907x0, hv979, hv984, hb987, hv1022⟩
    ·rintro _ x1019 xs_ s1016 o1020 a w1017 ⟨k1018, rfl, hd, σ, a1022, n1022, c1022, f1022, rfl, hC, hO, hvi907x0, hv979, hv984, hb987, hv1022⟩ hs
     have hlt := drop_cons_lt hd
     have hxk1018 := drop_cons_idx hd
     refine c_seq (c_region ?_)
     refine pl_val (.bool (decide ((k1018 : Int) < (x976.length : Int)))) (y_lss rfl rfl) ?_
     refine c_nil ?_
     refine c_seq ?_
     refine c_condT (congrArg Value.bool (decide_eq_true hlt)) ?_
     refine wp_skip ?_
     refine c_seq ?_
     refine wp_block ?_
     refine c_seq (c_region ?_)
     obtain ⟨b1026, o1026, hp1026, ha1026⟩ := rs_idx Sl25 Sz3 hv984 hxk1018
     refine pl_val (.pointer (some ⟨b1026, o1026, none⟩)) (hp1026 _ _ _ _ _ _ _ _ _ rfl rfl) ?_
     refine pl_val (.int .i64 x1019) (y_load rfl ((at_load_int Ag3 Sz3 ha1026) _ (Chg.refl _ _))) ?_
     refine pl_val (.int .i64 x1019) (y_assign rfl) ?_
     refine c_nil ?_
     refine x_start [10, 12] Mx rfl ?_
     have hCw1027 := Chg.drew w1017
     generalize World.drew w1017 = w1027 at hCw1027 ⊢
     have hvi907x0 := hvi907x0.ext hCw1027
     have hv979 := hv979.ext hCw1027
     have hv984 := hv984.ext hCw1027
     have hb987 := hb987.chg hCw1027 (fun h => nomatch h)
     have hv1022 := hv1022.ext hCw1027
     have hC := hC.ext hCw1027
     have hO := hO.ext hCw1027
     have hS := Chg.refl [] w1027
     refine x_p 0 (.pointer (some ⟨g986, 1, none⟩)) rfl (by kernel_rfl)  (fun _ => y_faddr rfl Fa51x1) (fun _ => hS) ?_
     refine x_l 1 (.slice a1022 n1022 c1022) rfl (by kernel_rfl)  (fun w' hw' => y_load rfl ((box_load Ag49 Sz49 hb987 [(.int .i64 2)] [(.slice a1022 n1022 c1022)] [] rfl rfl (fun _ => rfl)) w' hw')) hS ?_
     refine x_p 2 (.int .i64 x1019) rfl (by kernel_rfl)  (fun _ => y_move rfl) (fun _ => hS) ?_
     refine x_p 3 (.int .i64 n) rfl (by kernel_rfl)  (fun _ => y_move rfl) (fun _ => hS) ?_
     obtain ⟨u1028, hu1028, hs⟩ := bind_some hs
     refine x_p 4 (.int .i64 (w64 (Int.tdiv x1019 n))) rfl (by kernel_rfl)  (fun _ => y_quo rfl rfl (nz_ne hu1028)) (fun _ => hS) ?_
     refine x_p 5 (.int .i64 x1019) rfl (by kernel_rfl)  (fun _ => y_move rfl) (fun _ => hS) ?_
     refine x_p 6 (.int .i64 n) rfl (by kernel_rfl)  (fun _ => y_move rfl) (fun _ => hS) ?_
     obtain ⟨u1029, hu1029, hs⟩ := bind_some hs
     refine x_p 7 (.int .i64 (Int.tmod x1019 n)) rfl (by kernel_rfl)  (fun _ => y_rem rfl rfl (nz_ne hu1029)) (fun _ => hS) ?_
     refine x_one (i := 8) (by kernel_rfl) ?_
     obtain ⟨w1030, g1030, ew1030, eg1030, hC1030, hb1030⟩ := new_block w1027 [(.int .i64 (w64 (Int.tdiv x1019 n))), (.int .i64 (Int.tmod x1019 n))] 3
     refine xk_val (w' := w1030) (b := false) (.slice (some ⟨g1030, 0, none⟩) 2 2) rfl  (y_bslice rfl (by rw [ew1030, eg1030]; kernel_rfl)) rfl (fun _ => hS.ext hC1030) ?_
     have hvi907x0 := hvi907x0.ext hC1030
     have hv979 := hv979.ext hC1030
     have hv984 := hv984.ext hC1030
     have hb987 := hb987.chg hC1030 (fun h => nomatch h)
     have hv1022 := hv1022.ext hC1030
     have hC := hC.ext hC1030
     have hO := hO.new1 hC1030 eg1030 hb1030.lt
     have hv1030 := os_of_box (r := (RT.int .i64)) (M := M) (css := [[(.int .i64 (w64 (Int.tdiv x1019 n)))], [(.int .i64 (Int.tmod x1019 n))]]) (fps := [([] : List Nat), ([] : List Nat)]) (xs := ([w64 (Int.tdiv x1019 n), Int.tmod x1019 n] : List Int)) hb1030 ⟨⟨rfl, rfl⟩, ⟨⟨rfl, rfl⟩, trivial⟩⟩ (Nat.le_of_ble_eq_true rfl) (List.nodup_cons.2 ⟨(fun h => nomatch h), List.nodup_nil⟩)
     have hv1030 : (RT.os 3 (RT.int .i64)).val M w1030 (.slice (some ⟨g1030, 0, none⟩) 2 2) [w64 (Int.tdiv x1019 n), Int.tmod x1019 n] [g1030] := hv1030
     have hS := hS.ext hC1030
     refine x_one (i := 9) (by kernel_rfl) ?_
     obtain ⟨w1032, g1032, ew1032, eg1032, hC1032, hb1032⟩ := new_block w1030 [(.slice (some ⟨g1030, 0, none⟩) 2 2)] 25
     refine xk_val (w' := w1032) (b := false) (.slice (some ⟨g1032, 0, none⟩) 1 1) rfl  (y_bslice rfl (by rw [ew1032, eg1032]; kernel_rfl)) rfl (fun _ => hS.ext hC1032) ?_
     have hvi907x0 := hvi907x0.ext hC1032
     have hv979 := hv979.ext hC1032
     have hv984 := hv984.ext hC1032
     have hb987 := hb987.chg hC1032 (fun h => nomatch h)
     have hv1022 := hv1022.ext hC1032
     have hv1030 := hv1030.ext hC1032
     have hC := hC.ext hC1032
     have hO := hO.new1 hC1032 eg1032 hb1032.lt
     have hO := hO.perm (R := (g1032 :: ((([g1030])) ++ ([]))) ++ (f1022 ++ (([g986]) ++ (f979 ++ (fi907x0 ++ ([])))))) (by simp)
     have hnd1032 := hO.nd
     have hv1032 := os_of_box (r := (RT.os 3 (RT.int .i64))) (M := M) (css := [[(.slice (some ⟨g1030, 0, none⟩) 2 2)]]) (fps := [([g1030] : List Nat)]) (xs := ([[w64 (Int.tdiv x1019 n), Int.tmod x1019 n]] : List (List Int))) hb1032 ⟨(os_unval hv1030), trivial⟩ (Nat.le_of_ble_eq_true rfl) hnd1032
     have hv1032 : (RT.os 25 (RT.os 3 (RT.int .i64))).val M w1032 (.slice (some ⟨g1032, 0, none⟩) 1 1) [[w64 (Int.tdiv x1019 n), Int.tmod x1019 n]] (g1032 :: ((([g1030])) ++ ([]))) := hv1032
     have hS := hS.ext hC1032
     refine x_one (i := 10) (by kernel_rfl) ?_
     obtain ⟨y1035, hy1035, hs⟩ := bind_some hs
     have hO := hO.fr1
     obtain ⟨a1034, n1034, c1034, w1034, f1034, hr1034, hC1034, hf1034, hv1034⟩ := app_os Rw49 hy1035 hv1022 hv1032 hO.inM (fun g hg hq => hO.apart g hq (mem_l hg))
     have hG1034 := os_block hv1022
     refine xk_val (w' := w1034) (b := true) (.slice a1034 n1034 c1034) rfl  (y_append rfl rfl (hr1034 _)) rfl (fun h => nomatch h) ?_
     have hO := hO.fr1
     have hO := hO.fr1
     have hvi907x0 := hvi907x0.mut hC1034 (fun g hg => hO.inM g (hG1034 g hg)) (fun g hg e => hO.apart g (hG1034 g hg) (mem_r (mem_r (mem_r (mem_l (e))))))
     have hv979 := hv979.mut hC1034 (fun g hg => hO.inM g (hG1034 g hg)) (fun g hg e => hO.apart g (hG1034 g hg) (mem_r (mem_r (mem_l (e)))))
     have hv984 := hv984.mut hC1034 (fun g hg => ⟨hO.inM g (hG1034 g hg), fun e => hO.apart g (hG1034 g hg) (mem_r (mem_r (mem_r (mem_l (e)))))⟩) (fun _ _ h => nomatch h)
     have hb987 := hb987.chg hC1034 (fun hg => hO.apart _ (hG1034 _ hg) (mem_r (mem_l (List.mem_singleton.2 rfl))))
     have hC := hC.step hC1034 (fun g hg => hO.inN g (hG1034 g hg))
     have hO := hO.eat hC1034 hf1034 (os_nodup hv1034) hv1034.fpl
     refine x_p 11 (.pointer (some ⟨g986, 1, none⟩)) rfl (by kernel_rfl)  (fun _ => y_faddr rfl Fa51x1) (fun h => nomatch h) ?_
     refine x_one (i := 12) (by kernel_rfl) ?_
     obtain ⟨w1037, hst1037, hC1037, hb1037⟩ := box_store (P := Try.prog) hb987 [(.int .i64 2)] [(.slice a1022 n1022 c1022)] [] [(.slice a1034 n1034 c1034)] rfl rfl (by intro u hu; simp only [List.mem_cons, List.not_mem_nil, or_false] at hu; rcases hu with rfl <;> rfl)
     refine xk_skip (w' := w1037) (b := true) rfl (ys_store rfl rfl (hst1037 _ _ rfl Sz49)) rfl (fun h => nomatch h) ?_
     have hO := hO.fr1
     have hvi907x0 := hvi907x0.mut hC1037 (fun g hg => hO.inM g ((fun _ h => h) g hg)) (fun g hg e => hO.apart g ((fun _ h => h) g hg) (mem_r (mem_r (mem_l (e)))))
     have hv979 := hv979.mut hC1037 (fun g hg => hO.inM g ((fun _ h => h) g hg)) (fun g hg e => hO.apart g ((fun _ h => h) g hg) (mem_r (mem_l (e))))
     have hv984 := hv984.mut hC1037 (fun g hg => ⟨hO.inM g ((fun _ h => h) g hg), fun e => hO.apart g ((fun _ h => h) g hg) (mem_r (mem_r (mem_l (e))))⟩) (fun _ _ h => nomatch h)
     have hv1034 := hv1034.mut hC1037 (fun g hg => hO.inM g ((fun _ h => h) g hg)) (fun g hg e => hO.apart g ((fun _ h => h) g hg) (mem_l (e)))
     have hC := hC.step hC1037 (fun g hg => hO.inN g ((fun _ h => h) g hg))
     have hO := hO.ext hC1037
     have hb1037 : BoxV w1037 g986 51 [(.int .i64 2), (.slice a1034 n1034 c1034)] := hb1037
     refine x_end (by kernel_rfl) ?_
     clear hS
     refine c_region ?_
     refine pl_val (.int .i64 (w64 ((k1018 : Int) + 1))) (y_add rfl rfl) ?_
     refine pl_val (.int .i64 (w64 ((k1018 : Int) + 1))) (y_move rfl) ?_
     refine c_nil ?_
     cases hs
     have hO := hO.fr3
     have hO := hO.fr3
     have hO := hO.fr2
     have hO := hO.fr3
     exact ⟨_, rfl, drop_cons_next hd, _, a1034, n1034, c1034, f1034, fr_ovl 120 ⟨rfl, rfl, rfl, rfl, rfl, rfl, rfl, rfl, congrArg (Value.int .i64) (w64_succ hlt (Int.natCast_nonneg _) (rs_max hv984)), trivial⟩, hC, hO, hvi907x0, hv979, hv984, hb1037, hv1034⟩
    ·skip
     have hO := hO.fr2
     have hO := hO.fr2
     have hO := hO.fr2
     have hO := hO.nil
     exact ⟨0, rfl, rfl, _, none, 0, 0, [], fr_ovl 120 ⟨rfl, rfl, rfl, rfl, rfl, rfl, rfl, rfl, rfl, trivial⟩, hC, hO, hvi907x0, hv979, hv984, hb987, os_nil⟩
    ·cases o1020 with
     | nx _ => exact True.intro
     | rt r_ =>
      have hs := after_rt hs
      intro a1 w1 hK
      cases hs
      exact hK
     | br s1016 =>
      have hs := after_br hs
      rintro a1 w1017 ⟨σ, a1024, n1024, c1024, f1024, rfl, hC, hO, hvi907x0, hv979, hv984, hb987, hv1024⟩
      refine c_region ?_
      refine pl_val (.slice a979 n979 c979) (y_move rfl) ?_
      refine pl_val (.agg #[(.int .i64 2), (.slice a1024 n1024 c1024)]) (y_load rfl ((box_load Ag51 Sz51 hb987 [] [(.int .i64 2), (.slice a1024 n1024 c1024)] [] rfl rfl (fun h => nomatch h)) _ (Chg.refl _ _))) ?_
      obtain ⟨w1038, g1038, ew1038, eg1038, hC1038, hb1038⟩ := new_block w1017 [(.int .i64 2), (.slice a1024 n1024 c1024)] 51
      refine pl_val (w' := w1038) (.slice (some ⟨g1038, 0, none⟩) 1 1) (y_bslice rfl (by rw [ew1038, eg1038]; kernel_rfl)) ?_
      have hvi907x0 := hvi907x0.ext hC1038
      have hv979 := hv979.ext hC1038
      have hv984 := hv984.ext hC1038
      have hb987 := hb987.chg hC1038 (fun h => nomatch h)
      have hv1024 := hv1024.ext hC1038
      have hC := hC.ext hC1038
      have hO := hO.new1 hC1038 eg1038 hb1038.lt
      have hO := hO.perm (R := (g1038 :: ((f1024) ++ ([]))) ++ (([g986]) ++ (f979 ++ (fi907x0 ++ ([]))))) (by simp)
      have hnd1038 := hO.nd
      have hv1038 := os_of_box (r := (RT.pr (RT.int .i64) (RT.os 25 (RT.os 3 (RT.int .i64))))) (M := M) (css := [[(.int .i64 2), (.slice a1024 n1024 c1024)]]) (fps := [(f1024 : List Nat)]) (xs := ([(2, s1016)] : List (Int × (List (List Int))))) hb1038 ⟨⟨_, _, _, _, rfl, rfl, ⟨rfl, rfl⟩, (os_unval hv1024)⟩, trivial⟩ (Nat.le_of_ble_eq_true rfl) hnd1038
      have hv1038 : (RT.os 51 (RT.pr (RT.int .i64) (RT.os 25 (RT.os 3 (RT.int .i64))))).val M w1038 (.slice (some ⟨g1038, 0, none⟩) 1 1) [(2, s1016)] (g1038 :: ((f1024) ++ ([]))) := hv1038
      obtain ⟨y1041, hy1041, hs⟩ := bind_some hs
      have hO := hO.fr2
      obtain ⟨a1040, n1040, c1040, w1040, f1040, hr1040, hC1040, hf1040, hv1040⟩ := app_os Rw43 hy1041 hv979 hv1038 hO.inM (fun g hg hq => hO.apart g hq (mem_l hg))
      have hG1040 := os_block hv979
      refine pl_val (w' := w1040) (.slice a1040 n1040 c1040) (y_append rfl rfl (hr1040 _)) ?_
      have hO := hO.fr1
      have hO := hO.fr1
      have hvi907x0 := hvi907x0.mut hC1040 (fun g hg => hO.inM g (hG1040 g hg)) (fun g hg e => hO.apart g (hG1040 g hg) (mem_r (mem_r (mem_l (e)))))
      have hv984 := hv984.mut hC1040 (fun g hg => ⟨hO.inM g (hG1040 g hg), fun e => hO.apart g (hG1040 g hg) (mem_r (mem_r (mem_l (e))))⟩) (fun _ _ h => nomatch h)
      have hb987 := hb987.chg hC1040 (fun hg => hO.apart _ (hG1040 _ hg) (mem_r (mem_l (List.mem_singleton.2 rfl))))
      have hC := hC.step hC1040 (fun g hg => hO.inN g (hG1040 g hg))
      have hO := hO.eat hC1040 hf1040 (os_nodup hv1040) hv1040.fpl
      refine pl_val (.slice a1040 n1040 c1040) (y_assign rfl) ?_
      refine c_nil ?_
      refine c_region ?_
      refine pl_val (.int .i64 (w64 ((k975 : Int) + 1))) (y_add rfl rfl) ?_
      refine pl_val (.int .i64 (w64 ((k975 : Int) + 1))) (y_move rfl) ?_
      refine c_nil ?_
      cases hs
      have hO := hO.fr1
      have hO := hO.drop
      have hO := hO.fr1
      have hO := hO.fr1
      exact ⟨_, rfl, drop_cons_next hd, _, a1040, n1040, c1040, f1040, fr_ovl 120 ⟨rfl, rfl, rfl, rfl, congrArg (Value.int .i64) (w64_succ hlt (Int.natCast_nonneg _) (os_max hvi907x0)), trivial⟩, hC, hO, hvi907x0, hv1040⟩
   ·skip
    have hO := hO.fr1
    have hO := hO.fr1
    exact ⟨0, rfl, rfl, _, (some ⟨g909, 0, none⟩), 0, 0, ([g909]), fr_ovl 120 ⟨rfl, rfl, rfl, rfl, rfl, trivial⟩, hC, hO, hvi907x0, hv909⟩
   ·cases o977 with
    | nx _ => exact True.intro
    | rt r_ =>
     have hs := after_rt hs
     intro a1 w1 hK
     cases hs
     exact hK
    | br s973 =>
     have hs := after_br hs
     rintro a1 w974 ⟨σ, a981, n981, c981, f981, rfl, hC, hO, hvi907x0, hv981⟩
     refine c_seq (c_region ?_)
     refine pl_val (.slice a981 n981 c981) (y_move rfl) ?_
     refine pl_val (.slice a981 n981 c981) (y_assign rfl) ?_
     refine pl_val (.bool true) (y_assign rfl) ?_
     refine c_nil ?_
     refine wp_ret ?_
     cases hs
     have hO := hO.fr1
     have hO := hO.drop
     exact ⟨_, a981, n981, c981, f981, fr_ovl 120 ⟨rfl, rfl, trivial⟩, hC, hv981, hO.top⟩

theorem Bd59 : Bodied Try.prog 59 := bodied Try.func59 (by kernel_rfl) rfl

theorem Bd60 : Bodied Try.prog 60 := bodied Try.func60 (by kernel_rfl) rfl

def k_impl_allPairRelations (M : Nat → Prop) (w0 : World) (r : (List (Int × (List (List Int)))) × Bool) (a : Act) (w : World) : Prop :=
  ∃ (σ : Nat → Value) (ra0 : Option Addr) (rn0 rc0 : Nat) (rf0 : List Nat), a = fr 19 (ovl σ [(2, (.slice ra0 rn0 rc0)), (3, (.bool r.2))]) ∧ Chg [] w0 w ∧ (RT.os 51 (RT.pr (RT.int .i64) (RT.os 25 (RT.os 3 (RT.int .i64))))).val M w (.slice ra0 rn0 rc0) r.1 rf0 ∧ Own (Nw w0 []) (fun _ => True) w (rf0 ++ ([]))
def s_impl_allPairRelations (a_ : Int × (List (Int × (List Int)))) : Option ((List (Int × (List (List Int)))) × Bool) :=
  ((s_impl_IsAlgebra (a_.1, a_.2)).bind fun r7 =>
  (bif (!r7) then some true else some (decide (4 < a_.1)))).bind fun s3 =>
  (bif s3 then some ([], false) else (s_impl_pairRelations a_.1 a_.2).bind fun r11 =>
  some (r11.1, r11.2))
set_option maxHeartbeats 4000000 in
theorem c_impl_allPairRelations {M : Nat → Prop} {w : World} {pa0 : Option Addr} {pn0 pc0 : Nat} (a_ : Int × (List (Int × (List Int)))) (h0 : (RT.rs (RT.pr (RT.int .i64) (RT.rs (RT.int .i64)))).val M w (.slice pa0 pn0 pc0) a_.2 ([])) (hM : ∀ g, w.heap.size ≤ g → M g) {r : (List (Int × (List (List Int)))) × Bool} (hs : s_impl_allPairRelations a_ = some r) :
    Gives Try.prog 39 [(.agg #[(.int .i64 a_.1), (.slice pa0 pn0 pc0)])] w (fun v w' => ∃ (ra0 : Option Addr) (rn0 rc0 : Nat) (rf0 : List Nat), v = (.tuple #[(.slice ra0 rn0 rc0), (.bool r.2)]) ∧ Chg [] w w' ∧ (RT.os 51 (RT.pr (RT.int .i64) (RT.os 25 (RT.os 3 (RT.int .i64))))).val M w' (.slice ra0 rn0 rc0) r.1 rf0 ∧ Own (Nw w []) (fun _ => True) w' (rf0 ++ ([]))) := by
 refine calls_fr Try.func39 rfl Try.ntmps39 (Nat.le_of_ble_eq_true rfl) ?_
 have hO := Own.start (N := Nw w []) hM Nw.fut
 have hC := Chg.refl [] w
 unfold s_impl_allPairRelations at hs
 refine wp_mono (Q := KPost (k_impl_allPairRelations M w r)) ?_ (fun e a w1 h => ?_)
 rotate_left
 ·cases e
  case ret =>
   obtain ⟨σ, ra0, rn0, rc0, rf0, rfl, hrest⟩ := h
   exact ret2x Try.results39 (res_tmp rfl) (res_tmp rfl) ⟨ra0, rn0, rc0, rf0, rfl, hrest⟩
  all_goals exact (h : False).elim
 refine c_seq (c_region ?_)
 obtain ⟨w2, g2, ew2, eg2, hC2, hb2⟩ := new_block w [(.int .i64 a_.1), (.slice pa0 pn0 pc0)] 34
 refine pl_val (w' := w2) (.pointer (some ⟨g2, 0, none⟩)) (y_box rfl (by rw [ew2, eg2]; kernel_rfl)) ?_
 have h0 := h0.ext hC2
 have hC := hC.ext hC2
 have hO := hO.new1 hC2 eg2 hb2.lt
 refine pl_val (.slice none 0 0) (y_assign rfl) ?_
 refine pl_val (.bool false) (y_assign rfl) ?_
 refine c_nil ?_
 refine c_seq ?_
 refine c_seq ?_
 obtain ⟨s3, hm5, hs⟩ := bind_some hs
 refine c_mid (I := fun a w4 => ∃ (σ : Nat → Value), a = fr 19 (ovl σ [(1, (.pointer (some ⟨g2, 0, none⟩))), (2, (.slice none 0 0)), (3, (.bool false)), (11, (.bool s3))]) ∧ Chg [] w2 w4) ?_ ?_
 ·replace hs := hm5
  have hMid := Chg.refl [] w2
  refine c_region ?_
  refine pl_val (.agg #[(.int .i64 a_.1), (.slice pa0 pn0 pc0)]) (y_load rfl ((box_load Ag34 Sz34 hb2 [] [(.int .i64 a_.1), (.slice pa0 pn0 pc0)] [] rfl rfl (fun h => nomatch h)) _ (Chg.refl _ _))) ?_
  obtain ⟨r7, hr7, hs⟩ := bind_some hs
  refine pl_call Bd59 rfl (c_impl_IsAlgebra (M := M) (a_.1, a_.2) h0 hO.fut hr7) ?_
  rintro _ w6 ⟨rfl, hC6⟩
  have h0 := h0.ext hC6
  have hb2 := hb2.chg hC6 (fun h => nomatch h)
  have hMid := hMid.ext hC6
  have hC := hC.ext hC6
  have hO := hO.ext hC6
  refine pl_val (.bool (!r7)) (y_not rfl) ?_
  refine pl_val (.bool (!r7)) (y_move rfl) ?_
  rcases bif_some hs with ⟨hc8, hs⟩ | ⟨hc8, hs⟩
  ·skip
   refine pl_not (tg := 7) (by kernel_rfl) (congrArg Value.bool hc8) ?_
   refine pl_not (tg := 7) (by kernel_rfl) (congrArg Value.bool hc8) ?_
   refine pl_not (tg := 7) (by kernel_rfl) (congrArg Value.bool hc8) ?_
   refine pl_val (.bool true) (y_pick_t (congrArg Value.bool hc8) rfl) ?_
   refine c_nil ?_
   cases hs
   exact ⟨_, fr_ovl 19 ⟨rfl, rfl, rfl, rfl, trivial⟩, hMid⟩
  ·skip
   refine pl_yes (.pointer (some ⟨g2, 0, none⟩)) (tg := 7) (by kernel_rfl) (congrArg Value.bool hc8) (y_faddr rfl Fa34x0) ?_
   refine pl_yes (.int .i64 a_.1) (tg := 7) (by kernel_rfl) (congrArg Value.bool hc8) (y_load rfl ((box_load Ag3 Sz3 hb2 [] [(.int .i64 a_.1)] [(.slice pa0 pn0 pc0)] rfl rfl (fun _ => rfl)) _ (Chg.refl _ _))) ?_
   refine pl_yes (.bool (decide (4 < a_.1))) (tg := 7) (by kernel_rfl) (congrArg Value.bool hc8) (y_gtr rfl rfl) ?_
   refine pl_val (.bool (decide (4 < a_.1))) (y_pick_f (congrArg Value.bool hc8) rfl) ?_
   refine c_nil ?_
   cases hs
   exact ⟨_, fr_ovl 19 ⟨rfl, rfl, rfl, rfl, trivial⟩, hMid⟩
 ·rintro a1 w4 ⟨σ, rfl, hCs3⟩
  have h0 := h0.ext hCs3
  have hb2 := hb2.chg hCs3 (fun h => nomatch h)
  have hC := hC.ext hCs3
  have hO := hO.ext hCs3
  rcases bif_some hs with ⟨hc9, hs⟩ | ⟨hc9, hs⟩
  ·skip
   refine c_condT (congrArg Value.bool hc9) ?_
   refine c_seq (c_region ?_)
   refine pl_val (.slice none 0 0) (y_assign rfl) ?_
   refine pl_val (.bool false) (y_assign rfl) ?_
   refine c_nil ?_
   refine wp_ret ?_
   cases hs
   have hO := hO.drop
   have hO := hO.nil
   exact ⟨_, none, 0, 0, [], fr_ovl 19 ⟨rfl, rfl, trivial⟩, hC, os_nil, hO.top⟩
  ·skip
   refine c_condF (congrArg Value.bool hc9) ?_
   refine wp_skip ?_
   refine c_seq (c_region ?_)
   refine pl_val (.pointer (some ⟨g2, 0, none⟩)) (y_faddr rfl Fa34x0) ?_
   refine pl_val (.int .i64 a_.1) (y_load rfl ((box_load Ag3 Sz3 hb2 [] [(.int .i64 a_.1)] [(.slice pa0 pn0 pc0)] rfl rfl (fun _ => rfl)) _ (Chg.refl _ _))) ?_
   refine pl_val (.pointer (some ⟨g2, 1, none⟩)) (y_faddr rfl Fa34x1) ?_
   refine pl_val (.slice pa0 pn0 pc0) (y_load rfl ((box_load Ag32 Sz32 hb2 [(.int .i64 a_.1)] [(.slice pa0 pn0 pc0)] [] rfl rfl (fun _ => rfl)) _ (Chg.refl _ _))) ?_
   obtain ⟨r11, hr11, hs⟩ := bind_some hs
   refine pl_call Bd60 rfl (c_impl_pairRelations (M := M) a_.1 a_.2 h0 hO.fut hr11) ?_
   rintro _ w10 ⟨a10x0, n10x0, c10x0, f10x0, rfl, hC10, hv10x0, hOc10⟩
   have h0 := h0.ext hC10
   have hb2 := hb2.chg hC10 (fun h => nomatch h)
   have hC := hC.ext hC10
   have hO := Own.join0 hO hC10 hOc10
   have hO := hO.perm (R := f10x0 ++ (([g2]) ++ ([]))) (by simp)
   refine pl_val (.slice a10x0 n10x0 c10x0) (y_extract rfl (by kernel_rfl)) ?_
   refine pl_val (.bool r11.2) (y_extract rfl (by kernel_rfl)) ?_
   refine pl_val (.slice a10x0 n10x0 c10x0) (y_assign rfl) ?_
   refine pl_val (.bool r11.2) (y_assign rfl) ?_
   refine c_nil ?_
   refine wp_ret ?_
   cases hs
   have hO := hO.fr1
   have hO := hO.drop
   exact ⟨_, a10x0, n10x0, c10x0, f10x0, fr_ovl 19 ⟨rfl, rfl, trivial⟩, hC, hv10x0, hO.top⟩

def k_impl_isInnerIso (M : Nat → Prop) (w0 : World) (r : Bool) (a : Act) (w : World) : Prop :=
  ∃ (σ : Nat → Value) , a = fr 46 (ovl σ [(2, (.bool r))]) ∧ Chg [] w0 w
def s_impl_isInnerIso (r_ : Int × (List (List Int))) : Option (Bool) :=
  (forC (S := Unit) (R := Bool) (fun k46 s44 =>
  (idx r_.2 k46).bind fun x50 =>
  (slc r_.2 0 k46).bind fun y55 =>
  (forR (S := Unit) (R := Bool) (fun _ x75 s72 =>
  (idx x50 0).bind fun x82 =>
  (idx x75 0).bind fun x84 =>
  (bif (x82 == x84) then some (.rt false) else (idx x50 1).bind fun x87 =>
  (idx x75 1).bind fun x89 =>
  (bif (x87 == x89) then some (.rt false) else some (.nx ())))) 0 y55 ()).bind fun o76 => after o76 (fun r_ => some (.rt r_)) (fun s72 =>
  some (.nx ()))) 0 (r_.2.length : Int) ()).bind fun o48 => after o48 (fun r_ => some r_) (fun s44 =>
  some (decide (0 < (r_.2.length : Int))))
set_option maxHeartbeats 4000000 in
theorem c_impl_isInnerIso {M : Nat → Prop} {w : World} {pa0 : Option Addr} {pn0 pc0 : Nat} (r_ : Int × (List (List Int))) (h0 : (RT.rs (RT.rs (RT.int .i64))).val M w (.slice pa0 pn0 pc0) r_.2 ([])) (hM : ∀ g, w.heap.size ≤ g → M g) {r : Bool} (hs : s_impl_isInnerIso r_ = some r) :
    Gives Try.prog 46 [(.agg #[(.int .i64 r_.1), (.slice pa0 pn0 pc0)])] w (fun v w' => v = (.bool r) ∧ Chg [] w w') := by
 refine calls_fr Try.func46 rfl Try.ntmps46 (Nat.le_of_ble_eq_true rfl) ?_
 have hO := Own.start (N := Nw w []) hM Nw.fut
 have hC := Chg.refl [] w
 unfold s_impl_isInnerIso at hs
 refine wp_mono (Q := KPost (k_impl_isInnerIso M w r)) ?_ (fun e a w1 h => ?_)
 rotate_left
 ·cases e
  case ret =>
   obtain ⟨σ, rfl, hrest⟩ := h
   exact ret1x Try.results46 (res_tmp rfl) ⟨rfl, hrest⟩
  all_goals exact (h : False).elim
 refine c_seq (c_region ?_)
 obtain ⟨w2, g2, ew2, eg2, hC2, hb2⟩ := new_block w [(.int .i64 r_.1), (.slice pa0 pn0 pc0)] 51
 refine pl_val (w' := w2) (.pointer (some ⟨g2, 0, none⟩)) (y_box rfl (by rw [ew2, eg2]; kernel_rfl)) ?_
 have h0 := h0.ext hC2
 have hC := hC.ext hC2
 have hO := hO.new1 hC2 eg2 hb2.lt
 refine pl_val (.bool false) (y_assign rfl) ?_
 refine c_nil ?_
 refine c_seq ?_
 refine c_seq (c_region ?_)
 refine pl_val (.pointer (some ⟨g2, 1, none⟩)) (y_faddr rfl Fa51x1) ?_
 refine pl_val (.slice pa0 pn0 pc0) (y_load rfl ((box_load Ag49 Sz49 hb2 [(.int .i64 r_.1)] [(.slice pa0 pn0 pc0)] [] rfl rfl (fun _ => rfl)) _ (Chg.refl _ _))) ?_
 refine pl_val (.int .i64 (r_.2.length : Int)) (y_len' Sl49 (rs_len h0) rfl) ?_
 refine pl_val (.int .i64 0) (y_move rfl) ?_
 refine c_nil ?_
 obtain ⟨o48, hl49, hs⟩ := bind_some hs
 refine wp_block ?_
 refine wp_forC (id := 0) (r_.2.length : Int) (I := fun k46 s44 a w45 => ∃ (σ : Nat → Value), a = fr 46 (ovl σ [(1, (.pointer (some ⟨g2, 0, none⟩))), (8, (.slice pa0 pn0 pc0)), (9, (.int .i64 (r_.2.length : Int))), (10, (.int .i64 k46))]) ∧ Chg [] w w45 ∧ Own (Nw w []) M w45 (([g2]) ++ []) ∧ (RT.rs (RT.rs (RT.int .i64))).val M w45 (.slice pa0 pn0 pc0) r_.2 ([]) ∧ BoxV w45 g2 51 [(.int .i64 r_.1), (.slice pa0 pn0 pc0)]) (J := fun s44 a w45 => ∃ (σ : Nat → Value), a = fr 46 (ovl σ [(1, (.pointer (some ⟨g2, 0, none⟩)))]) ∧ Chg [] w w45 ∧ Own (Nw w []) M w45 (([g2]) ++ []) ∧ (RT.rs (RT.rs (RT.int .i64))).val M w45 (.slice pa0 pn0 pc0) r_.2 ([]) ∧ BoxV w45 g2 51 [(.int .i64 r_.1), (.slice pa0 pn0 pc0)]) (K := (k_impl_isInnerIso M w)) ?_ ?_ 0 () o48 _ _ ?_ hl49 ?_
 ·rintro k46 s44 a w45 ⟨σ, rfl, hC, hO, h0, hb2⟩ hlt
  refine c_seq (c_region ?_)
  refine pl_val (.bool (decide (k46 < (r_.2.length : Int)))) (y_lss rfl rfl) ?_
  refine c_nil ?_
  refine c_seq ?_
  refine c_condF (congrArg Value.bool (decide_eq_false hlt)) ?_
  refine wp_exit ?_
  exact ⟨rfl, _, fr_ovl 46 ⟨rfl, trivial⟩, hC, hO, h0, hb2⟩
 ·rintro k46 s44 o48 a w45 ⟨σ, rfl, hC, hO, h0, hb2⟩ hlt hw hs
  refine c_seq (c_region ?_)
  refine pl_val (.bool (decide (k46 < (r_.2.length : Int)))) (y_lss rfl rfl) ?_
  refine c_nil ?_
  refine c_seq ?_
  refine c_condT (congrArg Value.bool (decide_eq_true hlt)) ?_
  refine wp_skip ?_
  refine c_seq ?_
  refine wp_block ?_
  refine c_seq (c_region ?_)
  refine pl_val (.int .i64 k46) (y_move rfl) ?_
  obtain ⟨x50, hx50, hs⟩ := bind_some hs
  obtain ⟨b51, o51, hp51, ha51⟩ := rs_idx Sl49 Sz25 h0 hx50
  refine pl_val (.pointer (some ⟨b51, o51, none⟩)) (hp51 _ _ _ _ _ _ _ _ _ rfl rfl) ?_
  obtain ⟨v52, hl52, hv52⟩ := at_load Ag25 Sz25 (fun _ => rfl) ha51
  obtain ⟨a52, n52, c52, rfl⟩ := rs_sl hv52
  refine pl_val (.slice a52 n52 c52) (y_load rfl (hl52 _ (Chg.refl _ _))) ?_
  refine pl_val (.int .i64 k46) (y_assign rfl) ?_
  refine pl_val (.slice a52 n52 c52) (y_assign rfl) ?_
  refine c_nil ?_
  refine c_seq (c_region ?_)
  refine pl_val (.pointer (some ⟨g2, 1, none⟩)) (y_faddr rfl Fa51x1) ?_
  refine pl_val (.slice pa0 pn0 pc0) (y_load rfl ((box_load Ag49 Sz49 hb2 [(.int .i64 r_.1)] [(.slice pa0 pn0 pc0)] [] rfl rfl (fun _ => rfl)) _ (Chg.refl _ _))) ?_
  refine pl_val (.int .i64 k46) (y_move rfl) ?_
  obtain ⟨y55, hy55, hs⟩ := bind_some hs
  obtain ⟨a54, n54, c54, hv54, hr54, hq54, hz54⟩ := rs_part Try.underlying49 Sz25 h0 hy55
  refine pl_val (.slice a54 n54 c54) (y_slice rfl rfl rfl (hq54 rfl _)) ?_
  refine pl_val (.int .i64 (y55.length : Int)) (y_len' Sl49 (rs_len hv54) rfl) ?_
  refine pl_val (.int .i64 0) (y_move rfl) ?_
  refine c_nil ?_
  obtain ⟨o76, hl77, hs⟩ := bind_some hs
  refine wp_block ?_
  refine wp_forR (id := 2) (I := fun i_ xs_ s72 a w73 => ∃ k74 : Nat, i_ = (k74 : Int) ∧ List.drop k74 y55 = xs_ ∧ (∃ (σ : Nat → Value), a = fr 46 (ovl σ [(1, (.pointer (some ⟨g2, 0, none⟩))), (4, (.slice a52 n52 c52)), (8, (.slice pa0 pn0 pc0)), (9, (.int .i64 (r_.2.length : Int))), (10, (.int .i64 k46)), (18, (.slice a54 n54 c54)), (19, (.int .i64 (y55.length : Int))), (20, (.int .i64 (k74 : Int)))]) ∧ Chg [] w w73 ∧ Own (Nw w []) M w73 (([g2]) ++ []) ∧ (RT.rs (RT.rs (RT.int .i64))).val M w73 (.slice pa0 pn0 pc0) r_.2 ([]) ∧ BoxV w73 g2 51 [(.int .i64 r_.1), (.slice pa0 pn0 pc0)] ∧ (RT.rs (RT.int .i64)).val M w73 (.slice a52 n52 c52) x50 ([]) ∧ (RT.rs (RT.rs (RT.int .i64))).val M w73 (.slice a54 n54 c54) y55 ([]))) (J := fun s72 a w73 => ∃ (σ : Nat → Value), a = fr 46 (ovl σ [(1, (.pointer (some ⟨g2, 0, none⟩))), (8, (.slice pa0 pn0 pc0)), (9, (.int .i64 (r_.2.length : Int))), (10, (.int .i64 k46))]) ∧ Chg [] w w73 ∧ Own (Nw w []) M w73 (([g2]) ++ []) ∧ (RT.rs (RT.rs (RT.int .i64))).val M w73 (.slice pa0 pn0 pc0) r_.2 ([]) ∧ BoxV w73 g2 51 [(.int .i64 r_.1), (.slice pa0 pn0 pc0)] ∧ (RT.rs (RT.int .i64)).val M w73 (.slice a52 n52 c52) x50 ([]) ∧ (RT.rs (RT.rs (RT.int .i64))).val M w73 (.slice a54 n54 c54) y55 ([])) (K := (k_impl_isInnerIso M w)) ?_ ?_ y55 0 () o76 _ _ ?_ hl77 ?_
  ·rintro _ s72 a w73 ⟨k74, rfl, hd, σ, rfl, hC, hO, h0, hb2, hv52, hv54⟩
   have hlt := drop_nil_ge hd
   refine c_seq (c_region ?_)
   refine pl_val (.bool (decide ((k74 : Int) < (y55.length : Int)))) (y_lss rfl rfl) ?_
   refine c_nil ?_
   refine c_seq ?_
   refine c_condF (congrArg Value.bool (decide_eq_false hlt)) ?_
   refine wp_exit ?_
   exact ⟨rfl, _, fr_ovl 46 ⟨rfl, rfl, rfl, rfl, trivial⟩, hC, hO, h0, hb2, hv52, hv54⟩
  ·rintro _ x75 xs_ s72 o76 a w73 ⟨k74, rfl, hd, σ, rfl, hC, hO, h0, hb2, hv52, hv54⟩ hs
   have hlt := drop_cons_lt hd
   have hxk74 := drop_cons_idx hd
   refine c_seq (c_region ?_)
   refine pl_val (.bool (decide ((k74 : Int) < (y55.length : Int)))) (y_lss rfl rfl) ?_
   refine c_nil ?_
   refine c_seq ?_
   refine c_condT (congrArg Value.bool (decide_eq_true hlt)) ?_
   refine wp_skip ?_
   refine c_seq ?_
   refine wp_block ?_
   refine c_seq (c_region ?_)
   obtain ⟨b78, o78, hp78, ha78⟩ := rs_idx Sl49 Sz25 hv54 hxk74
   refine pl_val (.pointer (some ⟨b78, o78, none⟩)) (hp78 _ _ _ _ _ _ _ _ _ rfl rfl) ?_
   obtain ⟨v79, hl79, hv79⟩ := at_load Ag25 Sz25 (fun _ => rfl) ha78
   obtain ⟨a79, n79, c79, rfl⟩ := rs_sl hv79
   refine pl_val (.slice a79 n79 c79) (y_load rfl (hl79 _ (Chg.refl _ _))) ?_
   refine pl_val (.slice a79 n79 c79) (y_assign rfl) ?_
   refine c_nil ?_
   refine c_seq ?_
   refine x_start [] Mx rfl ?_
   have hCw81 := Chg.drew w73
   generalize World.drew w73 = w81 at hCw81 ⊢
   have h0 := h0.ext hCw81
   have hb2 := hb2.chg hCw81 (fun h => nomatch h)
   have hv52 := hv52.ext hCw81
   have hv54 := hv54.ext hCw81
   have hv79 := hv79.ext hCw81
   have hC := hC.ext hCw81
   have hO := hO.ext hCw81
   have hS := Chg.refl [] w81
   refine x_p 0 (.slice a52 n52 c52) rfl (by kernel_rfl)  (fun _ => y_move rfl) (fun _ => hS) ?_
   obtain ⟨x82, hx82, hs⟩ := bind_some hs
   obtain ⟨b83, o83, hp83, ha83⟩ := rs_idx Sl25 Sz3 hv52 hx82
   refine x_p 1 (.pointer (some ⟨b83, o83, none⟩)) rfl (by kernel_rfl)  (fun _ => hp83 _ _ _ _ _ _ _ _ _ rfl rfl) (fun _ => hS) ?_
   refine x_l 2 (.int .i64 x82) rfl (by kernel_rfl)  (fun w' hw' => y_load rfl ((at_load_int Ag3 Sz3 ha83) w' hw')) hS ?_
   refine x_p 3 (.slice a79 n79 c79) rfl (by kernel_rfl)  (fun _ => y_move rfl) (fun _ => hS) ?_
   obtain ⟨x84, hx84, hs⟩ := bind_some hs
   obtain ⟨b85, o85, hp85, ha85⟩ := rs_idx Sl25 Sz3 hv79 hx84
   refine x_p 4 (.pointer (some ⟨b85, o85, none⟩)) rfl (by kernel_rfl)  (fun _ => hp85 _ _ _ _ _ _ _ _ _ rfl rfl) (fun _ => hS) ?_
   refine x_l 5 (.int .i64 x84) rfl (by kernel_rfl)  (fun w' hw' => y_load rfl ((at_load_int Ag3 Sz3 ha85) w' hw')) hS ?_
   refine x_p 6 (.bool (x82 == x84)) rfl (by kernel_rfl)  (fun _ => y_eql rfl rfl) (fun _ => hS) ?_
   refine x_p 7 (.bool (x82 == x84)) rfl (by kernel_rfl)  (fun _ => y_move rfl) (fun _ => hS) ?_
   rcases bif_some hs with ⟨hc86, hs⟩ | ⟨hc86, hs⟩
   ·skip
    refine x_pn 8 rfl (by kernel_rfl) (tg := 31) (by kernel_rfl) (congrArg Value.bool hc86) (fun _ => hS) ?_
    refine x_pn 9 rfl (by kernel_rfl) (tg := 31) (by kernel_rfl) (congrArg Value.bool hc86) (fun _ => hS) ?_
    refine x_pn 10 rfl (by kernel_rfl) (tg := 31) (by kernel_rfl) (congrArg Value.bool hc86) (fun _ => hS) ?_
    refine x_pn 11 rfl (by kernel_rfl) (tg := 31) (by kernel_rfl) (congrArg Value.bool hc86) (fun _ => hS) ?_
    refine x_pn 12 rfl (by kernel_rfl) (tg := 31) (by kernel_rfl) (congrArg Value.bool hc86) (fun _ => hS) ?_
    refine x_pn 13 rfl (by kernel_rfl) (tg := 31) (by kernel_rfl) (congrArg Value.bool hc86) (fun _ => hS) ?_
    refine x_pn 14 rfl (by kernel_rfl) (tg := 31) (by kernel_rfl) (congrArg Value.bool hc86) (fun _ => hS) ?_
    refine x_p 15 (.bool true) rfl (by kernel_rfl)  (fun _ => y_pick_t (congrArg Value.bool hc86) rfl) (fun _ => hS) ?_
    refine x_end (by kernel_rfl) ?_
    clear hS
    refine c_condT (by rfl) ?_
    refine c_seq (c_region ?_)
    refine pl_val (.bool false) (y_assign rfl) ?_
    refine c_nil ?_
    refine wp_ret ?_
    cases hs
    exact ⟨_, fr_ovl 46 ⟨rfl, trivial⟩, hC⟩
   ·skip
    refine x_py 8 (.slice a52 n52 c52) rfl (by kernel_rfl) (tg := 31) (by kernel_rfl) (congrArg Value.bool hc86) (fun _ => y_move rfl) (fun _ => hS) ?_
    obtain ⟨x87, hx87, hs⟩ := bind_some hs
    obtain ⟨b88, o88, hp88, ha88⟩ := rs_idx Sl25 Sz3 hv52 hx87
    refine x_py 9 (.pointer (some ⟨b88, o88, none⟩)) rfl (by kernel_rfl) (tg := 31) (by kernel_rfl) (congrArg Value.bool hc86) (fun _ => hp88 _ _ _ _ _ _ _ _ _ rfl rfl) (fun _ => hS) ?_
    refine x_ly 10 (.int .i64 x87) rfl (by kernel_rfl) (tg := 31) (by kernel_rfl) (congrArg Value.bool hc86) (fun w' hw' => y_load rfl ((at_load_int Ag3 Sz3 ha88) w' hw')) hS ?_
    refine x_py 11 (.slice a79 n79 c79) rfl (by kernel_rfl) (tg := 31) (by kernel_rfl) (congrArg Value.bool hc86) (fun _ => y_move rfl) (fun _ => hS) ?_
    obtain ⟨x89, hx89, hs⟩ := bind_some hs
    obtain ⟨b90, o90, hp90, ha90⟩ := rs_idx Sl25 Sz3 hv79 hx89
    refine x_py 12 (.pointer (some ⟨b90, o90, none⟩)) rfl (by kernel_rfl) (tg := 31) (by kernel_rfl) (congrArg Value.bool hc86) (fun _ => hp90 _ _ _ _ _ _ _ _ _ rfl rfl) (fun _ => hS) ?_
    refine x_ly 13 (.int .i64 x89) rfl (by kernel_rfl) (tg := 31) (by kernel_rfl) (congrArg Value.bool hc86) (fun w' hw' => y_load rfl ((at_load_int Ag3 Sz3 ha90) w' hw')) hS ?_
    refine x_py 14 (.bool (x87 == x89)) rfl (by kernel_rfl) (tg := 31) (by kernel_rfl) (congrArg Value.bool hc86) (fun _ => y_eql rfl rfl) (fun _ => hS) ?_
    refine x_p 15 (.bool (x87 == x89)) rfl (by kernel_rfl)  (fun _ => y_pick_f (congrArg Value.bool hc86) rfl) (fun _ => hS) ?_
    refine x_end (by kernel_rfl) ?_
    clear hS
    rcases bif_some hs with ⟨hc91, hs⟩ | ⟨hc91, hs⟩
    ·skip
     refine c_condT (congrArg Value.bool hc91) ?_
     refine c_seq (c_region ?_)
     refine pl_val (.bool false) (y_assign rfl) ?_
     refine c_nil ?_
     refine wp_ret ?_
     cases hs
     exact ⟨_, fr_ovl 46 ⟨rfl, trivial⟩, hC⟩
    ·skip
     refine c_condF (congrArg Value.bool hc91) ?_
     refine wp_skip ?_
     refine c_region ?_
     refine pl_val (.int .i64 (w64 ((k74 : Int) + 1))) (y_add rfl rfl) ?_
     refine pl_val (.int .i64 (w64 ((k74 : Int) + 1))) (y_move rfl) ?_
     refine c_nil ?_
     cases hs
     exact ⟨_, rfl, drop_cons_next hd, _, fr_ovl 46 ⟨rfl, rfl, rfl, rfl, rfl, rfl, rfl, congrArg (Value.int .i64) (w64_succ hlt (Int.natCast_nonneg _) (rs_max hv54)), trivial⟩, hC, hO, h0, hb2, hv52, hv54⟩
  ·skip
   exact ⟨0, rfl, rfl, _, fr_ovl 46 ⟨rfl, rfl, rfl, rfl, rfl, rfl, rfl, rfl, trivial⟩, hC, hO, h0, hb2, hv52, hv54⟩
  ·cases o76 with
   | nx _ => exact True.intro
   | rt r_ =>
    have hs := after_rt hs
    intro a1 w1 hK
    cases hs
    exact hK
   | br s72 =>
    have hs := after_br hs
    rintro a1 w73 ⟨σ, rfl, hC, hO, h0, hb2, hv52, hv54⟩
    refine c_region ?_
    refine pl_val (.int .i64 (w64 (k46 + 1))) (y_add rfl rfl) ?_
    refine pl_val (.int .i64 (w64 (k46 + 1))) (y_move rfl) ?_
    refine c_nil ?_
    cases hs
    exact ⟨_, fr_ovl 46 ⟨rfl, rfl, rfl, congrArg (Value.int .i64) hw, trivial⟩, hC, hO, h0, hb2⟩
 ·skip
  exact ⟨_, fr_ovl 46 ⟨rfl, rfl, rfl, rfl, trivial⟩, hC, hO, h0, hb2⟩
 ·cases o48 with
  | nx _ => exact True.intro
  | rt r_ =>
   have hs := after_rt hs
   intro a1 w1 hK
   cases hs
   exact hK
  | br s44 =>
   have hs := after_br hs
   rintro a1 w45 ⟨σ, rfl, hC, hO, h0, hb2⟩
   refine c_seq (c_region ?_)
   refine pl_val (.pointer (some ⟨g2, 1, none⟩)) (y_faddr rfl Fa51x1) ?_
   refine pl_val (.slice pa0 pn0 pc0) (y_load rfl ((box_load Ag49 Sz49 hb2 [(.int .i64 r_.1)] [(.slice pa0 pn0 pc0)] [] rfl rfl (fun _ => rfl)) _ (Chg.refl _ _))) ?_
   refine pl_val (.int .i64 (r_.2.length : Int)) (y_len' Sl49 (rs_len h0) rfl) ?_
   refine pl_val (.bool (decide (0 < (r_.2.length : Int)))) (y_gtr rfl rfl) ?_
   refine pl_val (.bool (decide (0 < (r_.2.length : Int)))) (y_assign rfl) ?_
   refine c_nil ?_
   refine wp_ret ?_
   cases hs
   exact ⟨_, fr_ovl 46 ⟨rfl, trivial⟩, hC⟩

theorem Bd39 : Bodied Try.prog 39 := bodied Try.func39 (by kernel_rfl) rfl

theorem Sl43 : SlT Try.prog 43 51 := Try.underlying43

theorem Bd46 : Bodied Try.prog 46 := bodied Try.func46 (by kernel_rfl) rfl

def k_impl_InnerIsos (M : Nat → Prop) (w0 : World) (r : (List (Int × (List (List Int)))) × Bool) (a : Act) (w : World) : Prop :=
  ∃ (σ : Nat → Value) (ra0 : Option Addr) (rn0 rc0 : Nat) (rf0 : List Nat), a = fr 32 (ovl σ [(2, (.slice ra0 rn0 rc0)), (3, (.bool r.2))]) ∧ Chg [] w0 w ∧ (RT.os 51 (RT.pr (RT.int .i64) (RT.os 25 (RT.os 3 (RT.int .i64))))).val M w (.slice ra0 rn0 rc0) r.1 rf0 ∧ Own (Nw w0 []) (fun _ => True) w (rf0 ++ ([]))
def s_impl_InnerIsos (a_ : Int × (List (Int × (List Int)))) : Option ((List (Int × (List (List Int)))) × Bool) :=
  (s_impl_allPairRelations (a_.1, a_.2)).bind fun r4 =>
  (bif (!r4.2) then some ([], false) else (forC (S := (List (Int × (List (List Int)))) × (List (Option (Int × (List (List Int)))))) (R := (List (Int × (List (List Int)))) × Bool) (fun k113 s111 =>
  (idx s111.2 k113).bind fun x123 =>
  (x123).bind fun x125 =>
  (s_impl_isInnerIso (x125.1, x125.2)).bind fun r131 =>
  (bif r131 then (idx s111.2 k113).bind fun o135 =>
  (o135).bind fun x136 =>
  (app s111.1 ([(x125.1, x136.2)])).bind fun y139 =>
  some (.nx (y139, List.set s111.2 (Int.toNat k113) none)) else some (.nx (s111.1, s111.2)))) 0 (r4.1.length : Int) ([], List.map some r4.1)).bind fun o115 => after o115 (fun r_ => some r_) (fun s111 =>
  some (s111.1, true)))
set_option maxHeartbeats 4000000 in
theorem c_impl_InnerIsos {M : Nat → Prop} {w : World} {pa0 : Option Addr} {pn0 pc0 : Nat} (a_ : Int × (List (Int × (List Int)))) (h0 : (RT.rs (RT.pr (RT.int .i64) (RT.rs (RT.int .i64)))).val M w (.slice pa0 pn0 pc0) a_.2 ([])) (hM : ∀ g, w.heap.size ≤ g → M g) {r : (List (Int × (List (List Int)))) × Bool} (hs : s_impl_InnerIsos a_ = some r) :
    Gives Try.prog 25 [(.agg #[(.int .i64 a_.1), (.slice pa0 pn0 pc0)])] w (fun v w' => ∃ (ra0 : Option Addr) (rn0 rc0 : Nat) (rf0 : List Nat), v = (.tuple #[(.slice ra0 rn0 rc0), (.bool r.2)]) ∧ Chg [] w w' ∧ (RT.os 51 (RT.pr (RT.int .i64) (RT.os 25 (RT.os 3 (RT.int .i64))))).val M w' (.slice ra0 rn0 rc0) r.1 rf0 ∧ Own (Nw w []) (fun _ => True) w' (rf0 ++ ([]))) := by
 refine calls_fr Try.func25 rfl Try.ntmps25 (Nat.le_of_ble_eq_true rfl) ?_
 have hO := Own.start (N := Nw w []) hM Nw.fut
 have hC := Chg.refl [] w
 unfold s_impl_InnerIsos at hs
 refine wp_mono (Q := KPost (k_impl_InnerIsos M w r)) ?_ (fun e a w1 h => ?_)
 rotate_left
 ·cases e
  case ret =>
   obtain ⟨σ, ra0, rn0, rc0, rf0, rfl, hrest⟩ := h
   exact ret2x Try.results25 (res_tmp rfl) (res_tmp rfl) ⟨ra0, rn0, rc0, rf0, rfl, hrest⟩
  all_goals exact (h : False).elim
 refine c_seq (c_region ?_)
 obtain ⟨w2, g2, ew2, eg2, hC2, hb2⟩ := new_block w [(.int .i64 a_.1), (.slice pa0 pn0 pc0)] 34
 refine pl_val (w' := w2) (.pointer (some ⟨g2, 0, none⟩)) (y_box rfl (by rw [ew2, eg2]; kernel_rfl)) ?_
 have h0 := h0.ext hC2
 have hC := hC.ext hC2
 have hO := hO.new1 hC2 eg2 hb2.lt
 refine pl_val (.slice none 0 0) (y_assign rfl) ?_
 refine pl_val (.bool false) (y_assign rfl) ?_
 refine c_nil ?_
 refine c_seq (c_region ?_)
 refine pl_val (.agg #[(.int .i64 a_.1), (.slice pa0 pn0 pc0)]) (y_load rfl ((box_load Ag34 Sz34 hb2 [] [(.int .i64 a_.1), (.slice pa0 pn0 pc0)] [] rfl rfl (fun h => nomatch h)) _ (Chg.refl _ _))) ?_
 obtain ⟨r4, hr4, hs⟩ := bind_some hs
 refine pl_call Bd39 rfl (c_impl_allPairRelations (M := M) (a_.1, a_.2) h0 hO.fut hr4) ?_
 rintro _ w3 ⟨a3x0, n3x0, c3x0, f3x0, rfl, hC3, hv3x0, hOc3⟩
 have h0 := h0.ext hC3
 have hb2 := hb2.chg hC3 (fun h => nomatch h)
 have hC := hC.ext hC3
 have hO := Own.join0 hO hC3 hOc3
 have hO := hO.perm (R := f3x0 ++ (([g2]) ++ ([]))) (by simp)
 refine pl_val (.tuple #[(.slice a3x0 n3x0 c3x0), (.bool r4.2)]) (y_move rfl) ?_
 refine pl_val (.slice a3x0 n3x0 c3x0) (y_extract rfl (by kernel_rfl)) ?_
 refine pl_val (.bool r4.2) (y_extract rfl (by kernel_rfl)) ?_
 refine pl_val (.slice a3x0 n3x0 c3x0) (y_assign rfl) ?_
 refine pl_val (.bool r4.2) (y_assign rfl) ?_
 refine c_nil ?_
 refine c_seq ?_
 refine c_seq (c_region ?_)
 refine pl_val (.bool r4.2) (y_move rfl) ?_
 refine pl_val (.bool (!r4.2)) (y_not rfl) ?_
 refine c_nil ?_
 rcases bif_some hs with ⟨hc6, hs⟩ | ⟨hc6, hs⟩
 ·skip
  refine c_condT (congrArg Value.bool hc6) ?_
  refine c_seq (c_region ?_)
  obtain ⟨w7, g7, ew7, eg7, hC7, hb7⟩ := new_block w3 [] 51
  refine pl_val (w' := w7) (.slice (some ⟨g7, 0, none⟩) 0 0) (y_bslice rfl (by rw [ew7, eg7]; kernel_rfl)) ?_
  have hb2 := hb2.chg hC7 (fun h => nomatch h)
  have hv3x0 := hv3x0.ext hC7
  have hC := hC.ext hC7
  have hO := hO.new1 hC7 eg7 hb7.lt
  have hv7 := os_of_box (r := (RT.pr (RT.int .i64) (RT.os 25 (RT.os 3 (RT.int .i64))))) (M := M) (css := []) (fps := []) (xs := ([] : List (Int × (List (List Int))))) hb7 trivial (Nat.zero_le _) (List.nodup_cons.2 ⟨(fun h => nomatch h), List.nodup_nil⟩)
  have hv7 : (RT.os 51 (RT.pr (RT.int .i64) (RT.os 25 (RT.os 3 (RT.int .i64))))).val M w7 (.slice (some ⟨g7, 0, none⟩) 0 0) [] [g7] := hv7
  refine pl_val (.slice (some ⟨g7, 0, none⟩) 0 0) (y_assign rfl) ?_
  refine pl_val (.bool false) (y_assign rfl) ?_
  refine c_nil ?_
  refine wp_ret ?_
  cases hs
  have hO := hO.fr1
  have hO := hO.drop
  have hO := hO.fr1
  have hO := hO.drop
  exact ⟨_, (some ⟨g7, 0, none⟩), 0, 0, ([g7]), fr_ovl 32 ⟨rfl, rfl, trivial⟩, hC, hv7, hO.top⟩
 ·skip
  refine c_condF (congrArg Value.bool hc6) ?_
  refine wp_skip ?_
  refine c_seq (c_region ?_)
  obtain ⟨w9, g9, ew9, eg9, hC9, hb9⟩ := new_block w3 [] 51
  refine pl_val (w' := w9) (.slice (some ⟨g9, 0, none⟩) 0 0) (y_bslice rfl (by rw [ew9, eg9]; kernel_rfl)) ?_
  have hb2 := hb2.chg hC9 (fun h => nomatch h)
  have hv3x0 := hv3x0.ext hC9
  have hC := hC.ext hC9
  have hO := hO.new1 hC9 eg9 hb9.lt
  have hv9 := os_of_box (r := (RT.pr (RT.int .i64) (RT.os 25 (RT.os 3 (RT.int .i64))))) (M := M) (css := []) (fps := []) (xs := ([] : List (Int × (List (List Int))))) hb9 trivial (Nat.zero_le _) (List.nodup_cons.2 ⟨(fun h => nomatch h), List.nodup_nil⟩)
  have hv9 : (RT.os 51 (RT.pr (RT.int .i64) (RT.os 25 (RT.os 3 (RT.int .i64))))).val M w9 (.slice (some ⟨g9, 0, none⟩) 0 0) [] [g9] := hv9
  refine pl_val (.slice (some ⟨g9, 0, none⟩) 0 0) (y_assign rfl) ?_
  refine c_nil ?_
  refine c_seq ?_
  refine c_seq (c_region ?_)
  refine pl_val (.slice a3x0 n3x0 c3x0) (y_move rfl) ?_
  refine pl_val (.int .i64 (r4.1.length : Int)) (y_len' Sl43 (os_len hv3x0) rfl) ?_
  refine pl_val (.int .i64 0) (y_move rfl) ?_
  refine c_nil ?_
  have hO := hO.fr2
  have hO := hO.drop
  have hv3x0 := os_hole hv3x0
  obtain ⟨o115, hl116, hs⟩ := bind_some hs
  refine wp_block ?_
  refine wp_forC (id := 0) (r4.1.length : Int) (I := fun k113 s111 a w112 => ∃ (σ : Nat → Value) (a117 : Option Addr) (n117 : Nat) (c117 : Nat) (f117 : List Nat) (f119 : List Nat), a = fr 32 (ovl σ [(6, (.slice a117 n117 c117)), (18, (.slice a3x0 n3x0 c3x0)), (19, (.int .i64 (r4.1.length : Int))), (20, (.int .i64 k113))]) ∧ Chg [] w w112 ∧ Own (Nw w []) M w112 (f117 ++ (f119 ++ [])) ∧ (RT.os 51 (RT.hole (RT.pr (RT.int .i64) (RT.os 25 (RT.os 3 (RT.int .i64)))))).val M w112 (.slice a3x0 n3x0 c3x0) s111.2 f119 ∧ (RT.os 51 (RT.pr (RT.int .i64) (RT.os 25 (RT.os 3 (RT.int .i64))))).val M w112 (.slice a117 n117 c117) s111.1 f117) (J := fun s111 a w112 => ∃ (σ : Nat → Value) (a120 : Option Addr) (n120 : Nat) (c120 : Nat) (f120 : List Nat) (f122 : List Nat), a = fr 32 (ovl σ [(6, (.slice a120 n120 c120))]) ∧ Chg [] w w112 ∧ Own (Nw w []) M w112 (f120 ++ (f122 ++ [])) ∧ (RT.os 51 (RT.hole (RT.pr (RT.int .i64) (RT.os 25 (RT.os 3 (RT.int .i64)))))).val M w112 (.slice a3x0 n3x0 c3x0) s111.2 f122 ∧ (RT.os 51 (RT.pr (RT.int .i64) (RT.os 25 (RT.os 3 (RT.int .i64))))).val M w112 (.slice a120 n120 c120) s111.1 f120) (K := (k_impl_InnerIsos M w)) ?_ ?_ 0 ([], List.map some r4.1) o115 _ _ ?_ hl116 ?_
  ·rintro k113 s111 a w112 ⟨σ, a117, n117, c117, f117, f119, rfl, hC, hO, hv119, hv117⟩ hlt
   refine c_seq (c_region ?_)
   refine pl_val (.bool (decide (k113 < (r4.1.length : Int)))) (y_lss rfl rfl) ?_
   refine c_nil ?_
   refine c_seq ?_
   refine c_condF (congrArg Value.bool (decide_eq_false hlt)) ?_
   refine wp_exit ?_
   have hO := hO.fr1
   have hO := hO.fr1
   exact ⟨rfl, _, a117, n117, c117, f117, f119, fr_ovl 32 ⟨rfl, trivial⟩, hC, hO, hv119, hv117⟩
  ·rintro k113 s111 o115 a w112 ⟨σ, a117, n117, c117, f117, f119, rfl, hC, hO, hv119, hv117⟩ hlt hw hs
   refine c_seq (c_region ?_)
   refine pl_val (.bool (decide (k113 < (r4.1.length : Int)))) (y_lss rfl rfl) ?_
   refine c_nil ?_
   refine c_seq ?_
   refine c_condT (congrArg Value.bool (decide_eq_true hlt)) ?_
   refine wp_skip ?_
   refine c_seq ?_
   refine wp_block ?_
   refine c_seq (c_region ?_)
   obtain ⟨x123, hx123, hs⟩ := bind_some hs
   obtain ⟨x125, hx125, hs⟩ := bind_some hs
   obtain ⟨g124, f124, hg124, hk124, hp124, ha124, hf124⟩ := os_idx Sl43 Sz51 hv119 (hx123.trans (congrArg some hx125))
   have hb124 := own_row (Frz.hole (Frz.pr Frz.int (Frz.os (Frz.os Frz.int)))) ha124 hf124
   have hb124 : (RT.pr (RT.int .i64) (RT.rs (RT.rs (RT.int .i64)))).at_ (Less M f119) w112 ⟨g124, 0 + Int.toNat k113 * 2, none⟩ x125 [] := hb124
   refine pl_val (.pointer (some ⟨g124, 0 + Int.toNat k113 * 2, none⟩)) (hp124 _ _ _ _ _ _ _ _ _ rfl rfl) ?_
   obtain ⟨cs126, hl126, hrow126, hr126⟩ := at_load2 Ag51 Sz51 rfl hb124
   obtain ⟨cc126x1, cd126x1, rfl, hh126x1, ht126x1⟩ := pr_open hr126
   obtain rfl := int_rel hh126x1
   obtain ⟨a126x2, n126x2, c126x2, rfl, hv126x2⟩ := rs_rel ht126x1
   refine pl_val (.agg #[(.int .i64 x125.1), (.slice a126x2 n126x2 c126x2)]) (y_load rfl (hl126 _ (Chg.refl _ _))) ?_
   obtain ⟨w128, g128, ew128, eg128, hC128, hb128⟩ := new_block w112 [(.int .i64 0), (.slice none 0 0)] 51
   refine pl_val (w' := w128) (.pointer (some ⟨g128, 0, none⟩)) (y_alloc (by rw [ew128, eg128]; kernel_rfl)) ?_
   have hv119 := hv119.ext hC128
   have hv117 := hv117.ext hC128
   have hv126x2 := hv126x2.ext hC128
   have hrow126 := hrow126.chg hC128 (fun h => nomatch h)
   have hC := hC.ext hC128
   have hO := hO.new1 hC128 eg128 hb128.lt
   obtain ⟨w129, hst129, hC129, hb129⟩ := box_store (P := Try.prog) hb128 [] [(.int .i64 0), (.slice none 0 0)] [] [(.int .i64 x125.1), (.slice a126x2 n126x2 c126x2)] rfl rfl (by intro u hu; simp only [List.mem_cons, List.not_mem_nil, or_false] at hu; rcases hu with rfl | rfl <;> rfl)
   refine pl_skip (w' := w129) (ys_store rfl rfl (hst129 _ _ rfl Sz51)) ?_
   have hv119 := hv119.mut hC129 (fun g hg => hO.inM g ((fun _ h => h) g hg)) (fun g hg e => hO.apart g ((fun _ h => h) g hg) (mem_r (mem_l (e))))
   have hv117 := hv117.mut hC129 (fun g hg => hO.inM g ((fun _ h => h) g hg)) (fun g hg e => hO.apart g ((fun _ h => h) g hg) (mem_l (e)))
   have hrow126 := hrow126.chg hC129 (fun hg => hO.apart _ ((fun _ h => h) _ hg) (mem_r (mem_l (os_block hv119 g124 (by rw [hg124]; exact List.mem_singleton.2 rfl)))))
   have hv126x2 := hv126x2.mut hC129 (fun g hg => ⟨hO.inM g ((fun _ h => h) g hg), fun e => hO.apart g ((fun _ h => h) g hg) (mem_r (mem_l (e)))⟩) (fun _ _ h => nomatch h)
   have hC := hC.step hC129 (fun g hg => hO.inN g ((fun _ h => h) g hg))
   have hO := hO.ext hC129
   have hb129 : BoxV w129 g128 51 [(.int .i64 x125.1), (.slice a126x2 n126x2 c126x2)] := hb129
   refine c_nil ?_
   refine c_seq (c_region ?_)
   refine pl_val (.agg #[(.int .i64 x125.1), (.slice a126x2 n126x2 c126x2)]) (y_load rfl ((box_load Ag51 Sz51 hb129 [] [(.int .i64 x125.1), (.slice a126x2 n126x2 c126x2)] [] rfl rfl (fun h => nomatch h)) _ (Chg.refl _ _))) ?_
   have hO := hO.fr2
   obtain ⟨r131, hr131, hs⟩ := bind_some hs
   refine pl_call Bd46 rfl (c_impl_isInnerIso (M := (Less M f119)) (x125.1, x125.2) hv126x2 hO.less.fut hr131) ?_
   rintro _ w130 ⟨rfl, hC130⟩
   have hv119 := hv119.ext hC130
   have hv117 := hv117.ext hC130
   have hv126x2 := hv126x2.ext hC130
   have hrow126 := hrow126.chg hC130 (fun h => nomatch h)
   have hb129 := hb129.chg hC130 (fun h => nomatch h)
   have hC := hC.ext hC130
   have hO := hO.ext hC130
   refine c_nil ?_
   rcases bif_some hs with ⟨hc132, hs⟩ | ⟨hc132, hs⟩
   ·skip
    refine c_condT (congrArg Value.bool hc132) ?_
    refine c_region ?_
    refine pl_val (.slice a117 n117 c117) (y_move rfl) ?_
    refine pl_val (.agg #[(.int .i64 x125.1), (.slice a126x2 n126x2 c126x2)]) (y_load rfl ((box_load Ag51 Sz51 hb129 [] [(.int .i64 x125.1), (.slice a126x2 n126x2 c126x2)] [] rfl rfl (fun h => nomatch h)) _ (Chg.refl _ _))) ?_
    obtain ⟨o135, ho135, hs⟩ := bind_some hs
    obtain ⟨x136, hx136, hs⟩ := bind_some hs
    obtain ⟨f134, fp134, hr134, hn134, hp134, hv134⟩ := oh_take (c := [(.int .i64 x125.1), (.slice a126x2 n126x2 c126x2)]) hg124 hv119 (ho135.trans (congrArg some hx136)) hrow126 rfl
    have hO := hO.split hp134
    obtain ⟨fa134x1, fb134x1, rfl, hp134x1, hq134x1⟩ := pr_split (c := [(.int .i64 x125.1)]) (d := [(.slice a126x2 n126x2 c126x2)]) hr134 rfl
    obtain rfl := int_fp hp134x1
    have hw134x2 : (RT.os 25 (RT.os 3 (RT.int .i64))).val M w130 (.slice a126x2 n126x2 c126x2) x136.2 fb134x1 := ⟨[_], rfl, hq134x1⟩
    have hO := hO.perm (R := fb134x1 ++ (fp134 ++ (([g128]) ++ (f117 ++ ([]))))) (by simp)
    obtain ⟨w133, g133, ew133, eg133, hC133, hb133⟩ := new_block w130 [(.int .i64 x125.1), (.slice a126x2 n126x2 c126x2)] 51
    refine pl_val (w' := w133) (.slice (some ⟨g133, 0, none⟩) 1 1) (y_bslice rfl (by rw [ew133, eg133]; kernel_rfl)) ?_
    have hv134 := hv134.ext hC133
    have hv117 := hv117.ext hC133
    have hw134x2 := hw134x2.ext hC133
    have hb129 := hb129.chg hC133 (fun h => nomatch h)
    have hC := hC.ext hC133
    have hO := hO.new1 hC133 eg133 hb133.lt
    have hO := hO.perm (R := (g133 :: ((fb134x1) ++ ([]))) ++ (fp134 ++ (([g128]) ++ (f117 ++ ([]))))) (by simp)
    have hnd133 := hO.nd
    have hv133 := os_of_box (r := (RT.pr (RT.int .i64) (RT.os 25 (RT.os 3 (RT.int .i64))))) (M := M) (css := [[(.int .i64 x125.1), (.slice a126x2 n126x2 c126x2)]]) (fps := [(fb134x1 : List Nat)]) (xs := ([(x125.1, x136.2)] : List (Int × (List (List Int))))) hb133 ⟨⟨_, _, _, _, rfl, rfl, ⟨rfl, rfl⟩, (os_unval hw134x2)⟩, trivial⟩ (Nat.le_of_ble_eq_true rfl) hnd133
    have hv133 : (RT.os 51 (RT.pr (RT.int .i64) (RT.os 25 (RT.os 3 (RT.int .i64))))).val M w133 (.slice (some ⟨g133, 0, none⟩) 1 1) [(x125.1, x136.2)] (g133 :: ((fb134x1) ++ ([]))) := hv133
    obtain ⟨y139, hy139, hs⟩ := bind_some hs
    have hO := hO.fr3
    obtain ⟨a138, n138, c138, w138, f138, hr138, hC138, hf138, hv138⟩ := app_os Rw43 hy139 hv117 hv133 hO.inM (fun g hg hq => hO.apart g hq (mem_l hg))
    have hG138 := os_block hv117
    refine pl_val (w' := w138) (.slice a138 n138 c138) (y_append rfl rfl (hr138 _)) ?_
    have hO := hO.fr1
    have hO := hO.fr1
    have hv134 := hv134.mut hC138 (fun g hg => hO.inM g (hG138 g hg)) (fun g hg e => hO.apart g (hG138 g hg) (mem_r (mem_l (e))))
    have hb129 := hb129.chg hC138 (fun hg => hO.apart _ (hG138 _ hg) (mem_r (mem_r (mem_l (List.mem_singleton.2 rfl)))))
    have hC := hC.step hC138 (fun g hg => hO.inN g (hG138 g hg))
    have hO := hO.eat hC138 hf138 (os_nodup hv138) hv138.fpl
    refine pl_val (.slice a138 n138 c138) (y_assign rfl) ?_
    refine c_nil ?_
    refine c_region ?_
    refine pl_val (.int .i64 (w64 (k113 + 1))) (y_add rfl rfl) ?_
    refine pl_val (.int .i64 (w64 (k113 + 1))) (y_move rfl) ?_
    refine c_nil ?_
    cases hs
    have hO := hO.fr2
    have hO := hO.drop
    have hO := hO.fr1
    have hO := hO.fr1
    exact ⟨_, a138, n138, c138, f138, fp134, fr_ovl 32 ⟨rfl, rfl, rfl, congrArg (Value.int .i64) hw, trivial⟩, hC, hO, hv134, hv138⟩
   ·skip
    refine c_condF (congrArg Value.bool hc132) ?_
    refine wp_skip ?_
    refine c_region ?_
    refine pl_val (.int .i64 (w64 (k113 + 1))) (y_add rfl rfl) ?_
    refine pl_val (.int .i64 (w64 (k113 + 1))) (y_move rfl) ?_
    refine c_nil ?_
    cases hs
    have hO := hO.fr1
    have hO := hO.drop
    have hO := hO.fr1
    exact ⟨_, a117, n117, c117, f117, f119, fr_ovl 32 ⟨rfl, rfl, rfl, congrArg (Value.int .i64) hw, trivial⟩, hC, hO, hv119, hv117⟩
  ·skip
   have hO := hO.fr1
   have hO := hO.fr1
   exact ⟨_, (some ⟨g9, 0, none⟩), 0, 0, ([g9]), f3x0, fr_ovl 32 ⟨rfl, rfl, rfl, rfl, trivial⟩, hC, hO, hv3x0, hv9⟩
  ·cases o115 with
   | nx _ => exact True.intro
   | rt r_ =>
    have hs := after_rt hs
    intro a1 w1 hK
    cases hs
    exact hK
   | br s111 =>
    have hs := after_br hs
    rintro a1 w112 ⟨σ, a120, n120, c120, f120, f122, rfl, hC, hO, hv122, hv120⟩
    refine c_seq (c_region ?_)
    refine pl_val (.slice a120 n120 c120) (y_move rfl) ?_
    refine pl_val (.slice a120 n120 c120) (y_assign rfl) ?_
    refine pl_val (.bool true) (y_assign rfl) ?_
    refine c_nil ?_
    refine wp_ret ?_
    cases hs
    have hO := hO.fr1
    have hO := hO.drop
    exact ⟨_, a120, n120, c120, f120, fr_ovl 32 ⟨rfl, rfl, trivial⟩, hC, hv120, hO.top⟩

def k_laws_eqIntS (M : Nat → Prop) (w0 : World) (r : Bool) (a : Act) (w : World) : Prop :=
  ∃ (σ : Nat → Value) , a = fr 26 (ovl σ [(4, (.bool r))]) ∧ Chg [] w0 w
def s_laws_eqIntS (a_ : List Int) (b : List Int) : Option (Bool) :=
  (bif ((a_.length : Int) != (b.length : Int)) then some false else (forC (S := Unit) (R := Bool) (fun k12 s10 =>
  (idx a_ k12).bind fun x17 =>
  (idx b k12).bind fun x19 =>
  (bif (x17 != x19) then some (.rt false) else some (.nx ()))) 0 (a_.length : Int) ()).bind fun o14 => after o14 (fun r_ => some r_) (fun s10 =>
  some true))
set_option maxHeartbeats 4000000 in
theorem c_laws_eqIntS {M : Nat → Prop} {w : World} {pa0 : Option Addr} {pn0 pc0 : Nat} {pa1 : Option Addr} {pn1 pc1 : Nat} (a_ : List Int) (b : List Int) (h0 : (RT.rs (RT.int .i64)).val M w (.slice pa0 pn0 pc0) a_ ([])) (h1 : (RT.rs (RT.int .i64)).val M w (.slice pa1 pn1 pc1) b ([])) (hM : ∀ g, w.heap.size ≤ g → M g) {r : Bool} (hs : s_laws_eqIntS a_ b = some r) :
    Gives Try.prog 43 [(.slice pa0 pn0 pc0), (.slice pa1 pn1 pc1)] w (fun v w' => v = (.bool r) ∧ Chg [] w w') := by
 refine calls_fr Try.func43 rfl Try.ntmps43 (Nat.le_of_ble_eq_true rfl) ?_
 have hO := Own.start (N := Nw w []) hM Nw.fut
 have hC := Chg.refl [] w
 unfold s_laws_eqIntS at hs
 refine wp_mono (Q := KPost (k_laws_eqIntS M w r)) ?_ (fun e a w1 h => ?_)
 rotate_left
 ·cases e
  case ret =>
   obtain ⟨σ, rfl, hrest⟩ := h
   exact ret1x Try.results43 (res_tmp rfl) ⟨rfl, hrest⟩
  all_goals exact (h : False).elim
 refine c_seq (c_region ?_)
 refine pl_val (.bool false) (y_assign rfl) ?_
 refine c_nil ?_
 refine c_seq ?_
 refine c_seq (c_region ?_)
 refine pl_val (.slice pa0 pn0 pc0) (y_move rfl) ?_
 refine pl_val (.int .i64 (a_.length : Int)) (y_len' Sl25 (rs_len h0) rfl) ?_
 refine pl_val (.slice pa1 pn1 pc1) (y_move rfl) ?_
 refine pl_val (.int .i64 (b.length : Int)) (y_len' Sl25 (rs_len h1) rfl) ?_
 refine pl_val (.bool ((a_.length : Int) != (b.length : Int))) (y_neq rfl rfl) ?_
 refine c_nil ?_
 rcases bif_some hs with ⟨hc3, hs⟩ | ⟨hc3, hs⟩
 ·skip
  refine c_condT (congrArg Value.bool hc3) ?_
  refine c_seq (c_region ?_)
  refine pl_val (.bool false) (y_assign rfl) ?_
  refine c_nil ?_
  refine wp_ret ?_
  cases hs
  exact ⟨_, fr_ovl 26 ⟨rfl, trivial⟩, hC⟩
 ·skip
  refine c_condF (congrArg Value.bool hc3) ?_
  refine wp_skip ?_
  refine c_seq ?_
  refine c_seq (c_region ?_)
  refine pl_val (.int .i64 0) (y_assign rfl) ?_
  refine c_nil ?_
  obtain ⟨o14, hl15, hs⟩ := bind_some hs
  refine wp_block ?_
  refine wp_forC (id := 0) (a_.length : Int) (I := fun k12 s10 a w11 => ∃ (σ : Nat → Value), a = fr 26 (ovl σ [(0, (.slice pa0 pn0 pc0)), (1, (.slice pa1 pn1 pc1)), (5, (.int .i64 k12))]) ∧ Chg [] w w11 ∧ Own (Nw w []) M w11 ([]) ∧ (RT.rs (RT.int .i64)).val M w11 (.slice pa0 pn0 pc0) a_ ([]) ∧ (RT.rs (RT.int .i64)).val M w11 (.slice pa1 pn1 pc1) b ([])) (J := fun s10 a w11 => ∃ (σ : Nat → Value), a = fr 26 (ovl σ []) ∧ Chg [] w w11 ∧ Own (Nw w []) M w11 ([]) ∧ (RT.rs (RT.int .i64)).val M w11 (.slice pa0 pn0 pc0) a_ ([]) ∧ (RT.rs (RT.int .i64)).val M w11 (.slice pa1 pn1 pc1) b ([])) (K := (k_laws_eqIntS M w)) ?_ ?_ 0 () o14 _ _ ?_ hl15 ?_
  ·rintro k12 s10 a w11 ⟨σ, rfl, hC, hO, h0, h1⟩ hlt
   refine c_seq ?_
   refine c_seq (c_region ?_)
   refine pl_val (.int .i64 k12) (y_move rfl) ?_
   refine pl_val (.slice pa0 pn0 pc0) (y_move rfl) ?_
   refine pl_val (.int .i64 (a_.length : Int)) (y_len' Sl25 (rs_len h0) rfl) ?_
   refine pl_val (.bool (decide (k12 < (a_.length : Int)))) (y_lss rfl rfl) ?_
   refine c_nil ?_
   refine c_condF (congrArg Value.bool (decide_eq_false hlt)) ?_
   refine wp_exit ?_
   exact ⟨rfl, _, fr_ovl 26 trivial, hC, hO, h0, h1⟩
  ·rintro k12 s10 o14 a w11 ⟨σ, rfl, hC, hO, h0, h1⟩ hlt hw hs
   refine c_seq ?_
   refine c_seq (c_region ?_)
   refine pl_val (.int .i64 k12) (y_move rfl) ?_
   refine pl_val (.slice pa0 pn0 pc0) (y_move rfl) ?_
   refine pl_val (.int .i64 (a_.length : Int)) (y_len' Sl25 (rs_len h0) rfl) ?_
   refine pl_val (.bool (decide (k12 < (a_.length : Int)))) (y_lss rfl rfl) ?_
   refine c_nil ?_
   refine c_condT (congrArg Value.bool (decide_eq_true hlt)) ?_
   refine wp_skip ?_
   refine c_seq ?_
   refine wp_block ?_
   refine c_seq ?_
   refine x_start [] Mx rfl ?_
   have hCw16 := Chg.drew w11
   generalize World.drew w11 = w16 at hCw16 ⊢
   have h0 := h0.ext hCw16
   have h1 := h1.ext hCw16
   have hC := hC.ext hCw16
   have hO := hO.ext hCw16
   have hS := Chg.refl [] w16
   refine x_p 0 (.slice pa0 pn0 pc0) rfl (by kernel_rfl)  (fun _ => y_move rfl) (fun _ => hS) ?_
   refine x_p 1 (.int .i64 k12) rfl (by kernel_rfl)  (fun _ => y_move rfl) (fun _ => hS) ?_
   obtain ⟨x17, hx17, hs⟩ := bind_some hs
   obtain ⟨b18, o18, hp18, ha18⟩ := rs_idx Sl25 Sz3 h0 hx17
   refine x_p 2 (.pointer (some ⟨b18, o18, none⟩)) rfl (by kernel_rfl)  (fun _ => hp18 _ _ _ _ _ _ _ _ _ rfl rfl) (fun _ => hS) ?_
   refine x_l 3 (.int .i64 x17) rfl (by kernel_rfl)  (fun w' hw' => y_load rfl ((at_load_int Ag3 Sz3 ha18) w' hw')) hS ?_
   refine x_p 4 (.slice pa1 pn1 pc1) rfl (by kernel_rfl)  (fun _ => y_move rfl) (fun _ => hS) ?_
   refine x_p 5 (.int .i64 k12) rfl (by kernel_rfl)  (fun _ => y_move rfl) (fun _ => hS) ?_
   obtain ⟨x19, hx19, hs⟩ := bind_some hs
   obtain ⟨b20, o20, hp20, ha20⟩ := rs_idx Sl25 Sz3 h1 hx19
   refine x_p 6 (.pointer (some ⟨b20, o20, none⟩)) rfl (by kernel_rfl)  (fun _ => hp20 _ _ _ _ _ _ _ _ _ rfl rfl) (fun _ => hS) ?_
   refine x_l 7 (.int .i64 x19) rfl (by kernel_rfl)  (fun w' hw' => y_load rfl ((at_load_int Ag3 Sz3 ha20) w' hw')) hS ?_
   refine x_p 8 (.bool (x17 != x19)) rfl (by kernel_rfl)  (fun _ => y_neq rfl rfl) (fun _ => hS) ?_
   refine x_end (by kernel_rfl) ?_
   clear hS
   rcases bif_some hs with ⟨hc21, hs⟩ | ⟨hc21, hs⟩
   ·skip
    refine c_condT (congrArg Value.bool hc21) ?_
    refine c_seq (c_region ?_)
    refine pl_val (.bool false) (y_assign rfl) ?_
    refine c_nil ?_
    refine wp_ret ?_
    cases hs
    exact ⟨_, fr_ovl 26 ⟨rfl, trivial⟩, hC⟩
   ·skip
    refine c_condF (congrArg Value.bool hc21) ?_
    refine wp_skip ?_
    refine c_region ?_
    refine pl_val (.int .i64 k12) (y_move rfl) ?_
    refine pl_val (.int .i64 (w64 (k12 + 1))) (y_add rfl rfl) ?_
    refine pl_val (.int .i64 (w64 (k12 + 1))) (y_assign rfl) ?_
    refine c_nil ?_
    cases hs
    exact ⟨_, fr_ovl 26 ⟨rfl, rfl, congrArg (Value.int .i64) hw, trivial⟩, hC, hO, h0, h1⟩
  ·skip
   exact ⟨_, fr_ovl 26 ⟨rfl, rfl, rfl, trivial⟩, hC, hO, h0, h1⟩
  ·cases o14 with
   | nx _ => exact True.intro
   | rt r_ =>
    have hs := after_rt hs
    intro a1 w1 hK
    cases hs
    exact hK
   | br s10 =>
    have hs := after_br hs
    rintro a1 w11 ⟨σ, rfl, hC, hO, h0, h1⟩
    refine c_seq (c_region ?_)
    refine pl_val (.bool true) (y_assign rfl) ?_
    refine c_nil ?_
    refine wp_ret ?_
    cases hs
    exact ⟨_, fr_ovl 26 ⟨rfl, trivial⟩, hC⟩

theorem Bd43 : Bodied Try.prog 43 := bodied Try.func43 (by kernel_rfl) rfl

def k_laws_eqIntSS (M : Nat → Prop) (w0 : World) (r : Bool) (a : Act) (w : World) : Prop :=
  ∃ (σ : Nat → Value) , a = fr 27 (ovl σ [(4, (.bool r))]) ∧ Chg [] w0 w
def s_laws_eqIntSS (a_ : List (List Int)) (b : List (List Int)) : Option (Bool) :=
  (bif ((a_.length : Int) != (b.length : Int)) then some false else (forC (S := Unit) (R := Bool) (fun k18 s16 =>
  (idx a_ k18).bind fun x23 =>
  (idx b k18).bind fun x27 =>
  (s_laws_eqIntS x23 x27).bind fun r32 =>
  (bif (!r32) then some (.rt false) else some (.nx ()))) 0 (a_.length : Int) ()).bind fun o20 => after o20 (fun r_ => some r_) (fun s16 =>
  some true))
set_option maxHeartbeats 4000000 in
theorem c_laws_eqIntSS {M : Nat → Prop} {w : World} {pa0 : Option Addr} {pn0 pc0 : Nat} {pa1 : Option Addr} {pn1 pc1 : Nat} (a_ : List (List Int)) (b : List (List Int)) (h0 : (RT.rs (RT.rs (RT.int .i64))).val M w (.slice pa0 pn0 pc0) a_ ([])) (h1 : (RT.rs (RT.rs (RT.int .i64))).val M w (.slice pa1 pn1 pc1) b ([])) (hM : ∀ g, w.heap.size ≤ g → M g) {r : Bool} (hs : s_laws_eqIntSS a_ b = some r) :
    Gives Try.prog 52 [(.slice pa0 pn0 pc0), (.slice pa1 pn1 pc1)] w (fun v w' => v = (.bool r) ∧ Chg [] w w') := by
 refine calls_fr Try.func52 rfl Try.ntmps52 (Nat.le_of_ble_eq_true rfl) ?_
 have hO := Own.start (N := Nw w []) hM Nw.fut
 have hC := Chg.refl [] w
 unfold s_laws_eqIntSS at hs
 refine wp_mono (Q := KPost (k_laws_eqIntSS M w r)) ?_ (fun e a w1 h => ?_)
 rotate_left
 ·cases e
  case ret =>
   obtain ⟨σ, rfl, hrest⟩ := h
   exact ret1x Try.results52 (res_tmp rfl) ⟨rfl, hrest⟩
  all_goals exact (h : False).elim
 refine c_seq (c_region ?_)
 refine pl_val (.bool false) (y_assign rfl) ?_
 refine c_nil ?_
 refine c_seq ?_
 refine c_seq (c_region ?_)
 refine pl_val (.slice pa0 pn0 pc0) (y_move rfl) ?_
 refine pl_val (.int .i64 (a_.length : Int)) (y_len' Sl49 (rs_len h0) rfl) ?_
 refine pl_val (.slice pa1 pn1 pc1) (y_move rfl) ?_
 refine pl_val (.int .i64 (b.length : Int)) (y_len' Sl49 (rs_len h1) rfl) ?_
 refine pl_val (.bool ((a_.length : Int) != (b.length : Int))) (y_neq rfl rfl) ?_
 refine c_nil ?_
 rcases bif_some hs with ⟨hc3, hs⟩ | ⟨hc3, hs⟩
 ·skip
  refine c_condT (congrArg Value.bool hc3) ?_
  refine c_seq (c_region ?_)
  refine pl_val (.bool false) (y_assign rfl) ?_
  refine c_nil ?_
  refine wp_ret ?_
  cases hs
  exact ⟨_, fr_ovl 27 ⟨rfl, trivial⟩, hC⟩
 ·skip
  refine c_condF (congrArg Value.bool hc3) ?_
  refine wp_skip ?_
  refine c_seq ?_
  refine c_seq (c_region ?_)
  refine pl_val (.int .i64 0) (y_assign rfl) ?_
  refine c_nil ?_
  obtain ⟨o20, hl21, hs⟩ := bind_some hs
  refine wp_block ?_
  refine wp_forC (id := 0) (a_.length : Int) (I := fun k18 s16 a w17 => ∃ (σ : Nat → Value), a = fr 27 (ovl σ [(0, (.slice pa0 pn0 pc0)), (1, (.slice pa1 pn1 pc1)), (5, (.int .i64 k18))]) ∧ Chg [] w w17 ∧ Own (Nw w []) M w17 ([]) ∧ (RT.rs (RT.rs (RT.int .i64))).val M w17 (.slice pa0 pn0 pc0) a_ ([]) ∧ (RT.rs (RT.rs (RT.int .i64))).val M w17 (.slice pa1 pn1 pc1) b ([])) (J := fun s16 a w17 => ∃ (σ : Nat → Value), a = fr 27 (ovl σ []) ∧ Chg [] w w17 ∧ Own (Nw w []) M w17 ([]) ∧ (RT.rs (RT.rs (RT.int .i64))).val M w17 (.slice pa0 pn0 pc0) a_ ([]) ∧ (RT.rs (RT.rs (RT.int .i64))).val M w17 (.slice pa1 pn1 pc1) b ([])) (K := (k_laws_eqIntSS M w)) ?_ ?_ 0 () o20 _ _ ?_ hl21 ?_
  ·rintro k18 s16 a w17 ⟨σ, rfl, hC, hO, h0, h1⟩ hlt
   refine c_seq ?_
   refine c_seq (c_region ?_)
   refine pl_val (.int .i64 k18) (y_move rfl) ?_
   refine pl_val (.slice pa0 pn0 pc0) (y_move rfl) ?_
   refine pl_val (.int .i64 (a_.length : Int)) (y_len' Sl49 (rs_len h0) rfl) ?_
   refine pl_val (.bool (decide (k18 < (a_.length : Int)))) (y_lss rfl rfl) ?_
   refine c_nil ?_
   refine c_condF (congrArg Value.bool (decide_eq_false hlt)) ?_
   refine wp_exit ?_
   exact ⟨rfl, _, fr_ovl 27 trivial, hC, hO, h0, h1⟩
  ·rintro k18 s16 o20 a w17 ⟨σ, rfl, hC, hO, h0, h1⟩ hlt hw hs
   refine c_seq ?_
   refine c_seq (c_region ?_)
   refine pl_val (.int .i64 k18) (y_move rfl) ?_
   refine pl_val (.slice pa0 pn0 pc0) (y_move rfl) ?_
   refine pl_val (.int .i64 (a_.length : Int)) (y_len' Sl49 (rs_len h0) rfl) ?_
   refine pl_val (.bool (decide (k18 < (a_.length : Int)))) (y_lss rfl rfl) ?_
   refine c_nil ?_
   refine c_condT (congrArg Value.bool (decide_eq_true hlt)) ?_
   refine wp_skip ?_
   refine c_seq ?_
   refine wp_block ?_
   refine c_seq ?_
   refine x_start [] Mx rfl ?_
   have hCw22 := Chg.drew w17
   generalize World.drew w17 = w22 at hCw22 ⊢
   have h0 := h0.ext hCw22
   have h1 := h1.ext hCw22
   have hC := hC.ext hCw22
   have hO := hO.ext hCw22
   have hS := Chg.refl [] w22
   refine x_p 0 (.slice pa0 pn0 pc0) rfl (by kernel_rfl)  (fun _ => y_move rfl) (fun _ => hS) ?_
   refine x_p 1 (.int .i64 k18) rfl (by kernel_rfl)  (fun _ => y_move rfl) (fun _ => hS) ?_
   obtain ⟨x23, hx23, hs⟩ := bind_some hs
   obtain ⟨b24, o24, hp24, ha24⟩ := rs_idx Sl49 Sz25 h0 hx23
   refine x_p 2 (.pointer (some ⟨b24, o24, none⟩)) rfl (by kernel_rfl)  (fun _ => hp24 _ _ _ _ _ _ _ _ _ rfl rfl) (fun _ => hS) ?_
   obtain ⟨v25, hl25, hv25⟩ := at_load Ag25 Sz25 (fun _ => rfl) ha24
   obtain ⟨a25, n25, c25, rfl⟩ := rs_sl hv25
   refine x_l 3 (.slice a25 n25 c25) rfl (by kernel_rfl)  (fun w' hw' => y_load rfl (hl25 w' hw')) hS ?_
   refine x_p 4 (.slice pa1 pn1 pc1) rfl (by kernel_rfl)  (fun _ => y_move rfl) (fun _ => hS) ?_
   refine x_p 5 (.int .i64 k18) rfl (by kernel_rfl)  (fun _ => y_move rfl) (fun _ => hS) ?_
   obtain ⟨x27, hx27, hs⟩ := bind_some hs
   obtain ⟨b28, o28, hp28, ha28⟩ := rs_idx Sl49 Sz25 h1 hx27
   refine x_p 6 (.pointer (some ⟨b28, o28, none⟩)) rfl (by kernel_rfl)  (fun _ => hp28 _ _ _ _ _ _ _ _ _ rfl rfl) (fun _ => hS) ?_
   obtain ⟨v29, hl29, hv29⟩ := at_load Ag25 Sz25 (fun _ => rfl) ha28
   obtain ⟨a29, n29, c29, rfl⟩ := rs_sl hv29
   refine x_l 7 (.slice a29 n29 c29) rfl (by kernel_rfl)  (fun w' hw' => y_load rfl (hl29 w' hw')) hS ?_
   refine x_one (i := 8) (by kernel_rfl) ?_
   obtain ⟨r32, hr32, hs⟩ := bind_some hs
   refine xk_call (b := false) rfl  Bd43 rfl (c_laws_eqIntS (M := M) x23 x27 hv25 hv29 hO.fut hr32) rfl (by rintro _ _ _ ⟨rfl, hC31⟩; exact hS.ext hC31) ?_
   rintro _ w31 ⟨rfl, hC31⟩
   have h0 := h0.ext hC31
   have h1 := h1.ext hC31
   have hv25 := hv25.ext hC31
   have hv29 := hv29.ext hC31
   have hC := hC.ext hC31
   have hO := hO.ext hC31
   have hS := hS.ext hC31
   refine x_p 9 (.bool (!r32)) rfl (by kernel_rfl)  (fun _ => y_not rfl) (fun _ => hS) ?_
   refine x_end (by kernel_rfl) ?_
   clear hS
   rcases bif_some hs with ⟨hc33, hs⟩ | ⟨hc33, hs⟩
   ·skip
    refine c_condT (congrArg Value.bool hc33) ?_
    refine c_seq (c_region ?_)
    refine pl_val (.bool false) (y_assign rfl) ?_
    refine c_nil ?_
    refine wp_ret ?_
    cases hs
    exact ⟨_, fr_ovl 27 ⟨rfl, trivial⟩, hC⟩
   ·skip
    refine c_condF (congrArg Value.bool hc33) ?_
    refine wp_skip ?_
    refine c_region ?_
    refine pl_val (.int .i64 k18) (y_move rfl) ?_
    refine pl_val (.int .i64 (w64 (k18 + 1))) (y_add rfl rfl) ?_
    refine pl_val (.int .i64 (w64 (k18 + 1))) (y_assign rfl) ?_
    refine c_nil ?_
    cases hs
    exact ⟨_, fr_ovl 27 ⟨rfl, rfl, congrArg (Value.int .i64) hw, trivial⟩, hC, hO, h0, h1⟩
  ·skip
   exact ⟨_, fr_ovl 27 ⟨rfl, rfl, rfl, trivial⟩, hC, hO, h0, h1⟩
  ·cases o20 with
   | nx _ => exact True.intro
   | rt r_ =>
    have hs := after_rt hs
    intro a1 w1 hK
    cases hs
    exact hK
   | br s16 =>
    have hs := after_br hs
    rintro a1 w17 ⟨σ, rfl, hC, hO, h0, h1⟩
    refine c_seq (c_region ?_)
    refine pl_val (.bool true) (y_assign rfl) ?_
    refine c_nil ?_
    refine wp_ret ?_
    cases hs
    exact ⟨_, fr_ovl 27 ⟨rfl, trivial⟩, hC⟩

theorem Fa51x0 : ∀ (a : Addr) (w : World), (Instr.fieldAt 51 (.pointer (some a)) 0).run Try.prog w = .ok (.pointer (some (a.add 0))) w := fun _ _ => by kernel_rfl

theorem Bd52 : Bodied Try.prog 52 := bodied Try.func52 (by kernel_rfl) rfl

def k_laws_eqRelation (M : Nat → Prop) (w0 : World) (r : Bool) (a : Act) (w : World) : Prop :=
  ∃ (σ : Nat → Value) , a = fr 16 (ovl σ [(4, (.bool r))]) ∧ Chg [] w0 w
def s_laws_eqRelation (a_ : Int × (List (List Int))) (b : Int × (List (List Int))) : Option (Bool) :=
  (bif (a_.1 != b.1) then some false else (s_laws_eqIntSS a_.2 b.2).bind fun r7 =>
  (bif (!r7) then some false else some true))
set_option maxHeartbeats 4000000 in
theorem c_laws_eqRelation {M : Nat → Prop} {w : World} {pa0 : Option Addr} {pn0 pc0 : Nat} {pa1 : Option Addr} {pn1 pc1 : Nat} (a_ : Int × (List (List Int))) (b : Int × (List (List Int))) (h0 : (RT.rs (RT.rs (RT.int .i64))).val M w (.slice pa0 pn0 pc0) a_.2 ([])) (h1 : (RT.rs (RT.rs (RT.int .i64))).val M w (.slice pa1 pn1 pc1) b.2 ([])) (hM : ∀ g, w.heap.size ≤ g → M g) {r : Bool} (hs : s_laws_eqRelation a_ b = some r) :
    Gives Try.prog 28 [(.agg #[(.int .i64 a_.1), (.slice pa0 pn0 pc0)]), (.agg #[(.int .i64 b.1), (.slice pa1 pn1 pc1)])] w (fun v w' => v = (.bool r) ∧ Chg [] w w') := by
 refine calls_fr Try.func28 rfl Try.ntmps28 (Nat.le_of_ble_eq_true rfl) ?_
 have hO := Own.start (N := Nw w []) hM Nw.fut
 have hC := Chg.refl [] w
 unfold s_laws_eqRelation at hs
 refine wp_mono (Q := KPost (k_laws_eqRelation M w r)) ?_ (fun e a w1 h => ?_)
 rotate_left
 ·cases e
  case ret =>
   obtain ⟨σ, rfl, hrest⟩ := h
   exact ret1x Try.results28 (res_tmp rfl) ⟨rfl, hrest⟩
  all_goals exact (h : False).elim
 refine c_seq (c_region ?_)
 obtain ⟨w3, g3, ew3, eg3, hC3, hb3⟩ := new_block w [(.int .i64 a_.1), (.slice pa0 pn0 pc0)] 51
 refine pl_val (w' := w3) (.pointer (some ⟨g3, 0, none⟩)) (y_box rfl (by rw [ew3, eg3]; kernel_rfl)) ?_
 have h0 := h0.ext hC3
 have h1 := h1.ext hC3
 have hC := hC.ext hC3
 have hO := hO.new1 hC3 eg3 hb3.lt
 obtain ⟨w4, g4, ew4, eg4, hC4, hb4⟩ := new_block w3 [(.int .i64 b.1), (.slice pa1 pn1 pc1)] 51
 refine pl_val (w' := w4) (.pointer (some ⟨g4, 0, none⟩)) (y_box rfl (by rw [ew4, eg4]; kernel_rfl)) ?_
 have h0 := h0.ext hC4
 have h1 := h1.ext hC4
 have hb3 := hb3.chg hC4 (fun h => nomatch h)
 have hC := hC.ext hC4
 have hO := hO.new1 hC4 eg4 hb4.lt
 refine pl_val (.bool false) (y_assign rfl) ?_
 refine c_nil ?_
 refine c_seq ?_
 refine c_seq (c_region ?_)
 refine pl_val (.pointer (some ⟨g3, 0, none⟩)) (y_faddr rfl Fa51x0) ?_
 refine pl_val (.int .i64 a_.1) (y_load rfl ((box_load Ag3 Sz3 hb3 [] [(.int .i64 a_.1)] [(.slice pa0 pn0 pc0)] rfl rfl (fun _ => rfl)) _ (Chg.refl _ _))) ?_
 refine pl_val (.pointer (some ⟨g4, 0, none⟩)) (y_faddr rfl Fa51x0) ?_
 refine pl_val (.int .i64 b.1) (y_load rfl ((box_load Ag3 Sz3 hb4 [] [(.int .i64 b.1)] [(.slice pa1 pn1 pc1)] rfl rfl (fun _ => rfl)) _ (Chg.refl _ _))) ?_
 refine pl_val (.bool (a_.1 != b.1)) (y_neq rfl rfl) ?_
 refine c_nil ?_
 rcases bif_some hs with ⟨hc5, hs⟩ | ⟨hc5, hs⟩
 ·skip
  refine c_condT (congrArg Value.bool hc5) ?_
  refine c_seq (c_region ?_)
  refine pl_val (.bool false) (y_assign rfl) ?_
  refine c_nil ?_
  refine wp_ret ?_
  cases hs
  exact ⟨_, fr_ovl 16 ⟨rfl, trivial⟩, hC⟩
 ·skip
  refine c_condF (congrArg Value.bool hc5) ?_
  refine wp_skip ?_
  refine c_seq ?_
  refine c_seq (c_region ?_)
  refine pl_val (.pointer (some ⟨g3, 1, none⟩)) (y_faddr rfl Fa51x1) ?_
  refine pl_val (.slice pa0 pn0 pc0) (y_load rfl ((box_load Ag49 Sz49 hb3 [(.int .i64 a_.1)] [(.slice pa0 pn0 pc0)] [] rfl rfl (fun _ => rfl)) _ (Chg.refl _ _))) ?_
  refine pl_val (.pointer (some ⟨g4, 1, none⟩)) (y_faddr rfl Fa51x1) ?_
  refine pl_val (.slice pa1 pn1 pc1) (y_load rfl ((box_load Ag49 Sz49 hb4 [(.int .i64 b.1)] [(.slice pa1 pn1 pc1)] [] rfl rfl (fun _ => rfl)) _ (Chg.refl _ _))) ?_
  obtain ⟨r7, hr7, hs⟩ := bind_some hs
  refine pl_call Bd52 rfl (c_laws_eqIntSS (M := M) a_.2 b.2 h0 h1 hO.fut hr7) ?_
  rintro _ w6 ⟨rfl, hC6⟩
  have h0 := h0.ext hC6
  have h1 := h1.ext hC6
  have hb3 := hb3.chg hC6 (fun h => nomatch h)
  have hb4 := hb4.chg hC6 (fun h => nomatch h)
  have hC := hC.ext hC6
  have hO := hO.ext hC6
  refine pl_val (.bool (!r7)) (y_not rfl) ?_
  refine c_nil ?_
  rcases bif_some hs with ⟨hc8, hs⟩ | ⟨hc8, hs⟩
  ·skip
   refine c_condT (congrArg Value.bool hc8) ?_
   refine c_seq (c_region ?_)
   refine pl_val (.bool false) (y_assign rfl) ?_
   refine c_nil ?_
   refine wp_ret ?_
   cases hs
   exact ⟨_, fr_ovl 16 ⟨rfl, trivial⟩, hC⟩
  ·skip
   refine c_condF (congrArg Value.bool hc8) ?_
   refine wp_skip ?_
   refine c_seq (c_region ?_)
   refine pl_val (.bool true) (y_assign rfl) ?_
   refine c_nil ?_
   refine wp_ret ?_
   cases hs
   exact ⟨_, fr_ovl 16 ⟨rfl, trivial⟩, hC⟩

theorem Bd28 : Bodied Try.prog 28 := bodied Try.func28 (by kernel_rfl) rfl

def k_laws_eqRelationS (M : Nat → Prop) (w0 : World) (r : Bool) (a : Act) (w : World) : Prop :=
  ∃ (σ : Nat → Value) , a = fr 27 (ovl σ [(4, (.bool r))]) ∧ Chg [] w0 w
def s_laws_eqRelationS (a_ : List (Int × (List (List Int)))) (b : List (Int × (List (List Int)))) : Option (Bool) :=
  (bif ((a_.length : Int) != (b.length : Int)) then some false else (forC (S := Unit) (R := Bool) (fun k18 s16 =>
  (idx a_ k18).bind fun x23 =>
  (idx b k18).bind fun x27 =>
  (s_laws_eqRelation (x23.1, x23.2) (x27.1, x27.2)).bind fun r32 =>
  (bif (!r32) then some (.rt false) else some (.nx ()))) 0 (a_.length : Int) ()).bind fun o20 => after o20 (fun r_ => some r_) (fun s16 =>
  some true))
set_option maxHeartbeats 4000000 in
theorem c_laws_eqRelationS {M : Nat → Prop} {w : World} {pa0 : Option Addr} {pn0 pc0 : Nat} {pa1 : Option Addr} {pn1 pc1 : Nat} (a_ : List (Int × (List (List Int)))) (b : List (Int × (List (List Int)))) (h0 : (RT.rs (RT.pr (RT.int .i64) (RT.rs (RT.rs (RT.int .i64))))).val M w (.slice pa0 pn0 pc0) a_ ([])) (h1 : (RT.rs (RT.pr (RT.int .i64) (RT.rs (RT.rs (RT.int .i64))))).val M w (.slice pa1 pn1 pc1) b ([])) (hM : ∀ g, w.heap.size ≤ g → M g) {r : Bool} (hs : s_laws_eqRelationS a_ b = some r) :
    Gives Try.prog 20 [(.slice pa0 pn0 pc0), (.slice pa1 pn1 pc1)] w (fun v w' => v = (.bool r) ∧ Chg [] w w') := by
 refine calls_fr Try.func20 rfl Try.ntmps20 (Nat.le_of_ble_eq_true rfl) ?_
 have hO := Own.start (N := Nw w []) hM Nw.fut
 have hC := Chg.refl [] w
 unfold s_laws_eqRelationS at hs
 refine wp_mono (Q := KPost (k_laws_eqRelationS M w r)) ?_ (fun e a w1 h => ?_)
 rotate_left
 ·cases e
  case ret =>
   obtain ⟨σ, rfl, hrest⟩ := h
   exact ret1x Try.results20 (res_tmp rfl) ⟨rfl, hrest⟩
  all_goals exact (h : False).elim
 refine c_seq (c_region ?_)
 refine pl_val (.bool false) (y_assign rfl) ?_
 refine c_nil ?_
 refine c_seq ?_
 refine c_seq (c_region ?_)
 refine pl_val (.slice pa0 pn0 pc0) (y_move rfl) ?_
 refine pl_val (.int .i64 (a_.length : Int)) (y_len' Sl43 (rs_len h0) rfl) ?_
 refine pl_val (.slice pa1 pn1 pc1) (y_move rfl) ?_
 refine pl_val (.int .i64 (b.length : Int)) (y_len' Sl43 (rs_len h1) rfl) ?_
 refine pl_val (.bool ((a_.length : Int) != (b.length : Int))) (y_neq rfl rfl) ?_
 refine c_nil ?_
 rcases bif_some hs with ⟨hc3, hs⟩ | ⟨hc3, hs⟩
 ·skip
  refine c_condT (congrArg Value.bool hc3) ?_
  refine c_seq (c_region ?_)
  refine pl_val (.bool false) (y_assign rfl) ?_
  refine c_nil ?_
  refine wp_ret ?_
  cases hs
  exact ⟨_, fr_ovl 27 ⟨rfl, trivial⟩, hC⟩
 ·skip
  refine c_condF (congrArg Value.bool hc3) ?_
  refine wp_skip ?_
  refine c_seq ?_
  refine c_seq (c_region ?_)
  refine pl_val (.int .i64 0) (y_assign rfl) ?_
  refine c_nil ?_
  obtain ⟨o20, hl21, hs⟩ := bind_some hs
  refine wp_block ?_
  refine wp_forC (id := 0) (a_.length : Int) (I := fun k18 s16 a w17 => ∃ (σ : Nat → Value), a = fr 27 (ovl σ [(0, (.slice pa0 pn0 pc0)), (1, (.slice pa1 pn1 pc1)), (5, (.int .i64 k18))]) ∧ Chg [] w w17 ∧ Own (Nw w []) M w17 ([]) ∧ (RT.rs (RT.pr (RT.int .i64) (RT.rs (RT.rs (RT.int .i64))))).val M w17 (.slice pa0 pn0 pc0) a_ ([]) ∧ (RT.rs (RT.pr (RT.int .i64) (RT.rs (RT.rs (RT.int .i64))))).val M w17 (.slice pa1 pn1 pc1) b ([])) (J := fun s16 a w17 => ∃ (σ : Nat → Value), a = fr 27 (ovl σ []) ∧ Chg [] w w17 ∧ Own (Nw w []) M w17 ([]) ∧ (RT.rs (RT.pr (RT.int .i64) (RT.rs (RT.rs (RT.int .i64))))).val M w17 (.slice pa0 pn0 pc0) a_ ([]) ∧ (RT.rs (RT.pr (RT.int .i64) (RT.rs (RT.rs (RT.int .i64))))).val M w17 (.slice pa1 pn1 pc1) b ([])) (K := (k_laws_eqRelationS M w)) ?_ ?_ 0 () o20 _ _ ?_ hl21 ?_
  ·rintro k18 s16 a w17 ⟨σ, rfl, hC, hO, h0, h1⟩ hlt
   refine c_seq ?_
   refine c_seq (c_region ?_)
   refine pl_val (.int .i64 k18) (y_move rfl) ?_
   refine pl_val (.slice pa0 pn0 pc0) (y_move rfl) ?_
   refine pl_val (.int .i64 (a_.length : Int)) (y_len' Sl43 (rs_len h0) rfl) ?_
   refine pl_val (.bool (decide (k18 < (a_.length : Int)))) (y_lss rfl rfl) ?_
   refine c_nil ?_
   refine c_condF (congrArg Value.bool (decide_eq_false hlt)) ?_
   refine wp_exit ?_
   exact ⟨rfl, _, fr_ovl 27 trivial, hC, hO, h0, h1⟩
  ·rintro k18 s16 o20 a w17 ⟨σ, rfl, hC, hO, h0, h1⟩ hlt hw hs
   refine c_seq ?_
   refine c_seq (c_region ?_)
   refine pl_val (.int .i64 k18) (y_move rfl) ?_
   refine pl_val (.slice pa0 pn0 pc0) (y_move rfl) ?_
   refine pl_val (.int .i64 (a_.length : Int)) (y_len' Sl43 (rs_len h0) rfl) ?_
   refine pl_val (.bool (decide (k18 < (a_.length : Int)))) (y_lss rfl rfl) ?_
   refine c_nil ?_
   refine c_condT (congrArg Value.bool (decide_eq_true hlt)) ?_
   refine wp_skip ?_
   refine c_seq ?_
   refine wp_block ?_
   refine c_seq ?_
   refine x_start [] Mx rfl ?_
   have hCw22 := Chg.drew w17
   generalize World.drew w17 = w22 at hCw22 ⊢
   have h0 := h0.ext hCw22
   have h1 := h1.ext hCw22
   have hC := hC.ext hCw22
   have hO := hO.ext hCw22
   have hS := Chg.refl [] w22
   refine x_p 0 (.slice pa0 pn0 pc0) rfl (by kernel_rfl)  (fun _ => y_move rfl) (fun _ => hS) ?_
   refine x_p 1 (.int .i64 k18) rfl (by kernel_rfl)  (fun _ => y_move rfl) (fun _ => hS) ?_
   obtain ⟨x23, hx23, hs⟩ := bind_some hs
   obtain ⟨b24, o24, hp24, ha24⟩ := rs_idx Sl43 Sz51 h0 hx23
   refine x_p 2 (.pointer (some ⟨b24, o24, none⟩)) rfl (by kernel_rfl)  (fun _ => hp24 _ _ _ _ _ _ _ _ _ rfl rfl) (fun _ => hS) ?_
   obtain ⟨v25, hl25, hv25⟩ := at_load Ag51 Sz51 (by intro h; cases h) ha24
   obtain ⟨cs25, rfl, hr25⟩ := hv25
   obtain ⟨cc25x1, cd25x1, rfl, hh25x1, ht25x1⟩ := pr_open hr25
   obtain rfl := int_rel hh25x1
   obtain ⟨a25x2, n25x2, c25x2, rfl, hv25x2⟩ := rs_rel ht25x1
   refine x_l 3 (.agg #[(.int .i64 x23.1), (.slice a25x2 n25x2 c25x2)]) rfl (by kernel_rfl)  (fun w' hw' => y_load rfl (hl25 w' hw')) hS ?_
   refine x_p 4 (.slice pa1 pn1 pc1) rfl (by kernel_rfl)  (fun _ => y_move rfl) (fun _ => hS) ?_
   refine x_p 5 (.int .i64 k18) rfl (by kernel_rfl)  (fun _ => y_move rfl) (fun _ => hS) ?_
   obtain ⟨x27, hx27, hs⟩ := bind_some hs
   obtain ⟨b28, o28, hp28, ha28⟩ := rs_idx Sl43 Sz51 h1 hx27
   refine x_p 6 (.pointer (some ⟨b28, o28, none⟩)) rfl (by kernel_rfl)  (fun _ => hp28 _ _ _ _ _ _ _ _ _ rfl rfl) (fun _ => hS) ?_
   obtain ⟨v29, hl29, hv29⟩ := at_load Ag51 Sz51 (by intro h; cases h) ha28
   obtain ⟨cs29, rfl, hr29⟩ := hv29
   obtain ⟨cc29x1, cd29x1, rfl, hh29x1, ht29x1⟩ := pr_open hr29
   obtain rfl := int_rel hh29x1
   obtain ⟨a29x2, n29x2, c29x2, rfl, hv29x2⟩ := rs_rel ht29x1
   refine x_l 7 (.agg #[(.int .i64 x27.1), (.slice a29x2 n29x2 c29x2)]) rfl (by kernel_rfl)  (fun w' hw' => y_load rfl (hl29 w' hw')) hS ?_
   refine x_one (i := 8) (by kernel_rfl) ?_
   obtain ⟨r32, hr32, hs⟩ := bind_some hs
   refine xk_call (b := false) rfl  Bd28 rfl (c_laws_eqRelation (M := M) (x23.1, x23.2) (x27.1, x27.2) hv25x2 hv29x2 hO.fut hr32) rfl (by rintro _ _ _ ⟨rfl, hC31⟩; exact hS.ext hC31) ?_
   rintro _ w31 ⟨rfl, hC31⟩
   have h0 := h0.ext hC31
   have h1 := h1.ext hC31
   have hv25x2 := hv25x2.ext hC31
   have hv29x2 := hv29x2.ext hC31
   have hC := hC.ext hC31
   have hO := hO.ext hC31
   have hS := hS.ext hC31
   refine x_p 9 (.bool (!r32)) rfl (by kernel_rfl)  (fun _ => y_not rfl) (fun _ => hS) ?_
   refine x_end (by kernel_rfl) ?_
   clear hS
   rcases bif_some hs with ⟨hc33, hs⟩ | ⟨hc33, hs⟩
   ·skip
    refine c_condT (congrArg Value.bool hc33) ?_
    refine c_seq (c_region ?_)
    refine pl_val (.bool false) (y_assign rfl) ?_
    refine c_nil ?_
    refine wp_ret ?_
    cases hs
    exact ⟨_, fr_ovl 27 ⟨rfl, trivial⟩, hC⟩
   ·skip
    refine c_condF (congrArg Value.bool hc33) ?_
    refine wp_skip ?_
    refine c_region ?_
    refine pl_val (.int .i64 k18) (y_move rfl) ?_
    refine pl_val (.int .i64 (w64 (k18 + 1))) (y_add rfl rfl) ?_
    refine pl_val (.int .i64 (w64 (k18 + 1))) (y_assign rfl) ?_
    refine c_nil ?_
    cases hs
    exact ⟨_, fr_ovl 27 ⟨rfl, rfl, congrArg (Value.int .i64) hw, trivial⟩, hC, hO, h0, h1⟩
  ·skip
   exact ⟨_, fr_ovl 27 ⟨rfl, rfl, rfl, trivial⟩, hC, hO, h0, h1⟩
  ·cases o20 with
   | nx _ => exact True.intro
   | rt r_ =>
    have hs := after_rt hs
    intro a1 w1 hK
    cases hs
    exact hK
   | br s16 =>
    have hs := after_br hs
    rintro a1 w17 ⟨σ, rfl, hC, hO, h0, h1⟩
    refine c_seq (c_region ?_)
    refine pl_val (.bool true) (y_assign rfl) ?_
    refine c_nil ?_
    refine wp_ret ?_
    cases hs
    exact ⟨_, fr_ovl 27 ⟨rfl, trivial⟩, hC⟩

def k_laws_eqOp (M : Nat → Prop) (w0 : World) (r : Bool) (a : Act) (w : World) : Prop :=
  ∃ (σ : Nat → Value) , a = fr 16 (ovl σ [(4, (.bool r))]) ∧ Chg [] w0 w
def s_laws_eqOp (a_ : Int × (List Int)) (b : Int × (List Int)) : Option (Bool) :=
  (bif (a_.1 != b.1) then some false else (s_laws_eqIntS a_.2 b.2).bind fun r7 =>
  (bif (!r7) then some false else some true))
set_option maxHeartbeats 4000000 in
theorem c_laws_eqOp {M : Nat → Prop} {w : World} {pa0 : Option Addr} {pn0 pc0 : Nat} {pa1 : Option Addr} {pn1 pc1 : Nat} (a_ : Int × (List Int)) (b : Int × (List Int)) (h0 : (RT.rs (RT.int .i64)).val M w (.slice pa0 pn0 pc0) a_.2 ([])) (h1 : (RT.rs (RT.int .i64)).val M w (.slice pa1 pn1 pc1) b.2 ([])) (hM : ∀ g, w.heap.size ≤ g → M g) {r : Bool} (hs : s_laws_eqOp a_ b = some r) :
    Gives Try.prog 15 [(.agg #[(.int .i64 a_.1), (.slice pa0 pn0 pc0)]), (.agg #[(.int .i64 b.1), (.slice pa1 pn1 pc1)])] w (fun v w' => v = (.bool r) ∧ Chg [] w w') := by
 refine calls_fr Try.func15 rfl Try.ntmps15 (Nat.le_of_ble_eq_true rfl) ?_
 have hO := Own.start (N := Nw w []) hM Nw.fut
 have hC := Chg.refl [] w
 unfold s_laws_eqOp at hs
 refine wp_mono (Q := KPost (k_laws_eqOp M w r)) ?_ (fun e a w1 h => ?_)
 rotate_left
 ·cases e
  case ret =>
   obtain ⟨σ, rfl, hrest⟩ := h
   exact ret1x Try.results15 (res_tmp rfl) ⟨rfl, hrest⟩
  all_goals exact (h : False).elim
 refine c_seq (c_region ?_)
 obtain ⟨w3, g3, ew3, eg3, hC3, hb3⟩ := new_block w [(.int .i64 a_.1), (.slice pa0 pn0 pc0)] 36
 refine pl_val (w' := w3) (.pointer (some ⟨g3, 0, none⟩)) (y_box rfl (by rw [ew3, eg3]; kernel_rfl)) ?_
 have h0 := h0.ext hC3
 have h1 := h1.ext hC3
 have hC := hC.ext hC3
 have hO := hO.new1 hC3 eg3 hb3.lt
 obtain ⟨w4, g4, ew4, eg4, hC4, hb4⟩ := new_block w3 [(.int .i64 b.1), (.slice pa1 pn1 pc1)] 36
 refine pl_val (w' := w4) (.pointer (some ⟨g4, 0, none⟩)) (y_box rfl (by rw [ew4, eg4]; kernel_rfl)) ?_
 have h0 := h0.ext hC4
 have h1 := h1.ext hC4
 have hb3 := hb3.chg hC4 (fun h => nomatch h)
 have hC := hC.ext hC4
 have hO := hO.new1 hC4 eg4 hb4.lt
 refine pl_val (.bool false) (y_assign rfl) ?_
 refine c_nil ?_
 refine c_seq ?_
 refine c_seq (c_region ?_)
 refine pl_val (.pointer (some ⟨g3, 0, none⟩)) (y_faddr rfl Fa36x0) ?_
 refine pl_val (.int .i64 a_.1) (y_load rfl ((box_load Ag3 Sz3 hb3 [] [(.int .i64 a_.1)] [(.slice pa0 pn0 pc0)] rfl rfl (fun _ => rfl)) _ (Chg.refl _ _))) ?_
 refine pl_val (.pointer (some ⟨g4, 0, none⟩)) (y_faddr rfl Fa36x0) ?_
 refine pl_val (.int .i64 b.1) (y_load rfl ((box_load Ag3 Sz3 hb4 [] [(.int .i64 b.1)] [(.slice pa1 pn1 pc1)] rfl rfl (fun _ => rfl)) _ (Chg.refl _ _))) ?_
 refine pl_val (.bool (a_.1 != b.1)) (y_neq rfl rfl) ?_
 refine c_nil ?_
 rcases bif_some hs with ⟨hc5, hs⟩ | ⟨hc5, hs⟩
 ·skip
  refine c_condT (congrArg Value.bool hc5) ?_
  refine c_seq (c_region ?_)
  refine pl_val (.bool false) (y_assign rfl) ?_
  refine c_nil ?_
  refine wp_ret ?_
  cases hs
  exact ⟨_, fr_ovl 16 ⟨rfl, trivial⟩, hC⟩
 ·skip
  refine c_condF (congrArg Value.bool hc5) ?_
  refine wp_skip ?_
  refine c_seq ?_
  refine c_seq (c_region ?_)
  refine pl_val (.pointer (some ⟨g3, 1, none⟩)) (y_faddr rfl Fa36x1) ?_
  refine pl_val (.slice pa0 pn0 pc0) (y_load rfl ((box_load Ag25 Sz25 hb3 [(.int .i64 a_.1)] [(.slice pa0 pn0 pc0)] [] rfl rfl (fun _ => rfl)) _ (Chg.refl _ _))) ?_
  refine pl_val (.pointer (some ⟨g4, 1, none⟩)) (y_faddr rfl Fa36x1) ?_
  refine pl_val (.slice pa1 pn1 pc1) (y_load rfl ((box_load Ag25 Sz25 hb4 [(.int .i64 b.1)] [(.slice pa1 pn1 pc1)] [] rfl rfl (fun _ => rfl)) _ (Chg.refl _ _))) ?_
  obtain ⟨r7, hr7, hs⟩ := bind_some hs
  refine pl_call Bd43 rfl (c_laws_eqIntS (M := M) a_.2 b.2 h0 h1 hO.fut hr7) ?_
  rintro _ w6 ⟨rfl, hC6⟩
  have h0 := h0.ext hC6
  have h1 := h1.ext hC6
  have hb3 := hb3.chg hC6 (fun h => nomatch h)
  have hb4 := hb4.chg hC6 (fun h => nomatch h)
  have hC := hC.ext hC6
  have hO := hO.ext hC6
  refine pl_val (.bool (!r7)) (y_not rfl) ?_
  refine c_nil ?_
  rcases bif_some hs with ⟨hc8, hs⟩ | ⟨hc8, hs⟩
  ·skip
   refine c_condT (congrArg Value.bool hc8) ?_
   refine c_seq (c_region ?_)
   refine pl_val (.bool false) (y_assign rfl) ?_
   refine c_nil ?_
   refine wp_ret ?_
   cases hs
   exact ⟨_, fr_ovl 16 ⟨rfl, trivial⟩, hC⟩
  ·skip
   refine c_condF (congrArg Value.bool hc8) ?_
   refine wp_skip ?_
   refine c_seq (c_region ?_)
   refine pl_val (.bool true) (y_assign rfl) ?_
   refine c_nil ?_
   refine wp_ret ?_
   cases hs
   exact ⟨_, fr_ovl 16 ⟨rfl, trivial⟩, hC⟩

theorem Bd15 : Bodied Try.prog 15 := bodied Try.func15 (by kernel_rfl) rfl

def k_laws_eqOpS (M : Nat → Prop) (w0 : World) (r : Bool) (a : Act) (w : World) : Prop :=
  ∃ (σ : Nat → Value) , a = fr 27 (ovl σ [(4, (.bool r))]) ∧ Chg [] w0 w
def s_laws_eqOpS (a_ : List (Int × (List Int))) (b : List (Int × (List Int))) : Option (Bool) :=
  (bif ((a_.length : Int) != (b.length : Int)) then some false else (forC (S := Unit) (R := Bool) (fun k18 s16 =>
  (idx a_ k18).bind fun x23 =>
  (idx b k18).bind fun x27 =>
  (s_laws_eqOp (x23.1, x23.2) (x27.1, x27.2)).bind fun r32 =>
  (bif (!r32) then some (.rt false) else some (.nx ()))) 0 (a_.length : Int) ()).bind fun o20 => after o20 (fun r_ => some r_) (fun s16 =>
  some true))
set_option maxHeartbeats 4000000 in
theorem c_laws_eqOpS {M : Nat → Prop} {w : World} {pa0 : Option Addr} {pn0 pc0 : Nat} {pa1 : Option Addr} {pn1 pc1 : Nat} (a_ : List (Int × (List Int))) (b : List (Int × (List Int))) (h0 : (RT.rs (RT.pr (RT.int .i64) (RT.rs (RT.int .i64)))).val M w (.slice pa0 pn0 pc0) a_ ([])) (h1 : (RT.rs (RT.pr (RT.int .i64) (RT.rs (RT.int .i64)))).val M w (.slice pa1 pn1 pc1) b ([])) (hM : ∀ g, w.heap.size ≤ g → M g) {r : Bool} (hs : s_laws_eqOpS a_ b = some r) :
    Gives Try.prog 42 [(.slice pa0 pn0 pc0), (.slice pa1 pn1 pc1)] w (fun v w' => v = (.bool r) ∧ Chg [] w w') := by
 refine calls_fr Try.func42 rfl Try.ntmps42 (Nat.le_of_ble_eq_true rfl) ?_
 have hO := Own.start (N := Nw w []) hM Nw.fut
 have hC := Chg.refl [] w
 unfold s_laws_eqOpS at hs
 refine wp_mono (Q := KPost (k_laws_eqOpS M w r)) ?_ (fun e a w1 h => ?_)
 rotate_left
 ·cases e
  case ret =>
   obtain ⟨σ, rfl, hrest⟩ := h
   exact ret1x Try.results42 (res_tmp rfl) ⟨rfl, hrest⟩
  all_goals exact (h : False).elim
 refine c_seq (c_region ?_)
 refine pl_val (.bool false) (y_assign rfl) ?_
 refine c_nil ?_
 refine c_seq ?_
 refine c_seq (c_region ?_)
 refine pl_val (.slice pa0 pn0 pc0) (y_move rfl) ?_
 refine pl_val (.int .i64 (a_.length : Int)) (y_len' Sl32 (rs_len h0) rfl) ?_
 refine pl_val (.slice pa1 pn1 pc1) (y_move rfl) ?_
 refine pl_val (.int .i64 (b.length : Int)) (y_len' Sl32 (rs_len h1) rfl) ?_
 refine pl_val (.bool ((a_.length : Int) != (b.length : Int))) (y_neq rfl rfl) ?_
 refine c_nil ?_
 rcases bif_some hs with ⟨hc3, hs⟩ | ⟨hc3, hs⟩
 ·skip
  refine c_condT (congrArg Value.bool hc3) ?_
  refine c_seq (c_region ?_)
  refine pl_val (.bool false) (y_assign rfl) ?_
  refine c_nil ?_
  refine wp_ret ?_
  cases hs
  exact ⟨_, fr_ovl 27 ⟨rfl, trivial⟩, hC⟩
 ·skip
  refine c_condF (congrArg Value.bool hc3) ?_
  refine wp_skip ?_
  refine c_seq ?_
  refine c_seq (c_region ?_)
  refine pl_val (.int .i64 0) (y_assign rfl) ?_
  refine c_nil ?_
  obtain ⟨o20, hl21, hs⟩ := bind_some hs
  refine wp_block ?_
  refine wp_forC (id := 0) (a_.length : Int) (I := fun k18 s16 a w17 => ∃ (σ : Nat → Value), a = fr 27 (ovl σ [(0, (.slice pa0 pn0 pc0)), (1, (.slice pa1 pn1 pc1)), (5, (.int .i64 k18))]) ∧ Chg [] w w17 ∧ Own (Nw w []) M w17 ([]) ∧ (RT.rs (RT.pr (RT.int .i64) (RT.rs (RT.int .i64)))).val M w17 (.slice pa0 pn0 pc0) a_ ([]) ∧ (RT.rs (RT.pr (RT.int .i64) (RT.rs (RT.int .i64)))).val M w17 (.slice pa1 pn1 pc1) b ([])) (J := fun s16 a w17 => ∃ (σ : Nat → Value), a = fr 27 (ovl σ []) ∧ Chg [] w w17 ∧ Own (Nw w []) M w17 ([]) ∧ (RT.rs (RT.pr (RT.int .i64) (RT.rs (RT.int .i64)))).val M w17 (.slice pa0 pn0 pc0) a_ ([]) ∧ (RT.rs (RT.pr (RT.int .i64) (RT.rs (RT.int .i64)))).val M w17 (.slice pa1 pn1 pc1) b ([])) (K := (k_laws_eqOpS M w)) ?_ ?_ 0 () o20 _ _ ?_ hl21 ?_
  ·rintro k18 s16 a w17 ⟨σ, rfl, hC, hO, h0, h1⟩ hlt
   refine c_seq ?_
   refine c_seq (c_region ?_)
   refine pl_val (.int .i64 k18) (y_move rfl) ?_
   refine pl_val (.slice pa0 pn0 pc0) (y_move rfl) ?_
   refine pl_val (.int .i64 (a_.length : Int)) (y_len' Sl32 (rs_len h0) rfl) ?_
   refine pl_val (.bool (decide (k18 < (a_.length : Int)))) (y_lss rfl rfl) ?_
   refine c_nil ?_
   refine c_condF (congrArg Value.bool (decide_eq_false hlt)) ?_
   refine wp_exit ?_
   exact ⟨rfl, _, fr_ovl 27 trivial, hC, hO, h0, h1⟩
  ·rintro k18 s16 o20 a w17 ⟨σ, rfl, hC, hO, h0, h1⟩ hlt hw hs
   refine c_seq ?_
   refine c_seq (c_region ?_)
   refine pl_val (.int .i64 k18) (y_move rfl) ?_
   refine pl_val (.slice pa0 pn0 pc0) (y_move rfl) ?_
   refine pl_val (.int .i64 (a_.length : Int)) (y_len' Sl32 (rs_len h0) rfl) ?_
   refine pl_val (.bool (decide (k18 < (a_.length : Int)))) (y_lss rfl rfl) ?_
   refine c_nil ?_
   refine c_condT (congrArg Value.bool (decide_eq_true hlt)) ?_
   refine wp_skip ?_
   refine c_seq ?_
   refine wp_block ?_
   refine c_seq ?_
   refine x_start [] Mx rfl ?_
   have hCw22 := Chg.drew w17
   generalize World.drew w17 = w22 at hCw22 ⊢
   have h0 := h0.ext hCw22
   have h1 := h1.ext hCw22
   have hC := hC.ext hCw22
   have hO := hO.ext hCw22
   have hS := Chg.refl [] w22
   refine x_p 0 (.slice pa0 pn0 pc0) rfl (by kernel_rfl)  (fun _ => y_move rfl) (fun _ => hS) ?_
   refine x_p 1 (.int .i64 k18) rfl (by kernel_rfl)  (fun _ => y_move rfl) (fun _ => hS) ?_
   obtain ⟨x23, hx23, hs⟩ := bind_some hs
   obtain ⟨b24, o24, hp24, ha24⟩ := rs_idx Sl32 Sz36 h0 hx23
   refine x_p 2 (.pointer (some ⟨b24, o24, none⟩)) rfl (by kernel_rfl)  (fun _ => hp24 _ _ _ _ _ _ _ _ _ rfl rfl) (fun _ => hS) ?_
   obtain ⟨v25, hl25, hv25⟩ := at_load Ag36 Sz36 (by intro h; cases h) ha24
   obtain ⟨cs25, rfl, hr25⟩ := hv25
   obtain ⟨cc25x1, cd25x1, rfl, hh25x1, ht25x1⟩ := pr_open hr25
   obtain rfl := int_rel hh25x1
   obtain ⟨a25x2, n25x2, c25x2, rfl, hv25x2⟩ := rs_rel ht25x1
   refine x_l 3 (.agg #[(.int .i64 x23.1), (.slice a25x2 n25x2 c25x2)]) rfl (by kernel_rfl)  (fun w' hw' => y_load rfl (hl25 w' hw')) hS ?_
   refine x_p 4 (.slice pa1 pn1 pc1) rfl (by kernel_rfl)  (fun _ => y_move rfl) (fun _ => hS) ?_
   refine x_p 5 (.int .i64 k18) rfl (by kernel_rfl)  (fun _ => y_move rfl) (fun _ => hS) ?_
   obtain ⟨x27, hx27, hs⟩ := bind_some hs
   obtain ⟨b28, o28, hp28, ha28⟩ := rs_idx Sl32 Sz36 h1 hx27
   refine x_p 6 (.pointer (some ⟨b28, o28, none⟩)) rfl (by kernel_rfl)  (fun _ => hp28 _ _ _ _ _ _ _ _ _ rfl rfl) (fun _ => hS) ?_
   obtain ⟨v29, hl29, hv29⟩ := at_load Ag36 Sz36 (by intro h; cases h) ha28
   obtain ⟨cs29, rfl, hr29⟩ := hv29
   obtain ⟨cc29x1, cd29x1, rfl, hh29x1, ht29x1⟩ := pr_open hr29
   obtain rfl := int_rel hh29x1
   obtain ⟨a29x2, n29x2, c29x2, rfl, hv29x2⟩ := rs_rel ht29x1
   refine x_l 7 (.agg #[(.int .i64 x27.1), (.slice a29x2 n29x2 c29x2)]) rfl (by kernel_rfl)  (fun w' hw' => y_load rfl (hl29 w' hw')) hS ?_
   refine x_one (i := 8) (by kernel_rfl) ?_
   obtain ⟨r32, hr32, hs⟩ := bind_some hs
   refine xk_call (b := false) rfl  Bd15 rfl (c_laws_eqOp (M := M) (x23.1, x23.2) (x27.1, x27.2) hv25x2 hv29x2 hO.fut hr32) rfl (by rintro _ _ _ ⟨rfl, hC31⟩; exact hS.ext hC31) ?_
   rintro _ w31 ⟨rfl, hC31⟩
   have h0 := h0.ext hC31
   have h1 := h1.ext hC31
   have hv25x2 := hv25x2.ext hC31
   have hv29x2 := hv29x2.ext hC31
   have hC := hC.ext hC31
   have hO := hO.ext hC31
   have hS := hS.ext hC31
   refine x_p 9 (.bool (!r32)) rfl (by kernel_rfl)  (fun _ => y_not rfl) (fun _ => hS) ?_
   refine x_end (by kernel_rfl) ?_
   clear hS
   rcases bif_some hs with ⟨hc33, hs⟩ | ⟨hc33, hs⟩
   ·skip
    refine c_condT (congrArg Value.bool hc33) ?_
    refine c_seq (c_region ?_)
    refine pl_val (.bool false) (y_assign rfl) ?_
    refine c_nil ?_
    refine wp_ret ?_
    cases hs
    exact ⟨_, fr_ovl 27 ⟨rfl, trivial⟩, hC⟩
   ·skip
    refine c_condF (congrArg Value.bool hc33) ?_
    refine wp_skip ?_
    refine c_region ?_
    refine pl_val (.int .i64 k18) (y_move rfl) ?_
    refine pl_val (.int .i64 (w64 (k18 + 1))) (y_add rfl rfl) ?_
    refine pl_val (.int .i64 (w64 (k18 + 1))) (y_assign rfl) ?_
    refine c_nil ?_
    cases hs
    exact ⟨_, fr_ovl 27 ⟨rfl, rfl, congrArg (Value.int .i64) hw, trivial⟩, hC, hO, h0, h1⟩
  ·skip
   exact ⟨_, fr_ovl 27 ⟨rfl, rfl, rfl, trivial⟩, hC, hO, h0, h1⟩
  ·cases o20 with
   | nx _ => exact True.intro
   | rt r_ =>
    have hs := after_rt hs
    intro a1 w1 hK
    cases hs
    exact hK
   | br s16 =>
    have hs := after_br hs
    rintro a1 w17 ⟨σ, rfl, hC, hO, h0, h1⟩
    refine c_seq (c_region ?_)
    refine pl_val (.bool true) (y_assign rfl) ?_
    refine c_nil ?_
    refine wp_ret ?_
    cases hs
    exact ⟨_, fr_ovl 27 ⟨rfl, trivial⟩, hC⟩

theorem Bd42 : Bodied Try.prog 42 := bodied Try.func42 (by kernel_rfl) rfl

def k_laws_eqAlgebra (M : Nat → Prop) (w0 : World) (r : Bool) (a : Act) (w : World) : Prop :=
  ∃ (σ : Nat → Value) , a = fr 16 (ovl σ [(4, (.bool r))]) ∧ Chg [] w0 w
def s_laws_eqAlgebra (a_ : Int × (List (Int × (List Int)))) (b : Int × (List (Int × (List Int)))) : Option (Bool) :=
  (bif (a_.1 != b.1) then some false else (s_laws_eqOpS a_.2 b.2).bind fun r7 =>
  (bif (!r7) then some false else some true))
set_option maxHeartbeats 4000000 in
theorem c_laws_eqAlgebra {M : Nat → Prop} {w : World} {pa0 : Option Addr} {pn0 pc0 : Nat} {pa1 : Option Addr} {pn1 pc1 : Nat} (a_ : Int × (List (Int × (List Int)))) (b : Int × (List (Int × (List Int)))) (h0 : (RT.rs (RT.pr (RT.int .i64) (RT.rs (RT.int .i64)))).val M w (.slice pa0 pn0 pc0) a_.2 ([])) (h1 : (RT.rs (RT.pr (RT.int .i64) (RT.rs (RT.int .i64)))).val M w (.slice pa1 pn1 pc1) b.2 ([])) (hM : ∀ g, w.heap.size ≤ g → M g) {r : Bool} (hs : s_laws_eqAlgebra a_ b = some r) :
    Gives Try.prog 14 [(.agg #[(.int .i64 a_.1), (.slice pa0 pn0 pc0)]), (.agg #[(.int .i64 b.1), (.slice pa1 pn1 pc1)])] w (fun v w' => v = (.bool r) ∧ Chg [] w w') := by
 refine calls_fr Try.func14 rfl Try.ntmps14 (Nat.le_of_ble_eq_true rfl) ?_
 have hO := Own.start (N := Nw w []) hM Nw.fut
 have hC := Chg.refl [] w
 unfold s_laws_eqAlgebra at hs
 refine wp_mono (Q := KPost (k_laws_eqAlgebra M w r)) ?_ (fun e a w1 h => ?_)
 rotate_left
 ·cases e
  case ret =>
   obtain ⟨σ, rfl, hrest⟩ := h
   exact ret1x Try.results14 (res_tmp rfl) ⟨rfl, hrest⟩
  all_goals exact (h : False).elim
 refine c_seq (c_region ?_)
 obtain ⟨w3, g3, ew3, eg3, hC3, hb3⟩ := new_block w [(.int .i64 a_.1), (.slice pa0 pn0 pc0)] 34
 refine pl_val (w' := w3) (.pointer (some ⟨g3, 0, none⟩)) (y_box rfl (by rw [ew3, eg3]; kernel_rfl)) ?_
 have h0 := h0.ext hC3
 have h1 := h1.ext hC3
 have hC := hC.ext hC3
 have hO := hO.new1 hC3 eg3 hb3.lt
 obtain ⟨w4, g4, ew4, eg4, hC4, hb4⟩ := new_block w3 [(.int .i64 b.1), (.slice pa1 pn1 pc1)] 34
 refine pl_val (w' := w4) (.pointer (some ⟨g4, 0, none⟩)) (y_box rfl (by rw [ew4, eg4]; kernel_rfl)) ?_
 have h0 := h0.ext hC4
 have h1 := h1.ext hC4
 have hb3 := hb3.chg hC4 (fun h => nomatch h)
 have hC := hC.ext hC4
 have hO := hO.new1 hC4 eg4 hb4.lt
 refine pl_val (.bool false) (y_assign rfl) ?_
 refine c_nil ?_
 refine c_seq ?_
 refine c_seq (c_region ?_)
 refine pl_val (.pointer (some ⟨g3, 0, none⟩)) (y_faddr rfl Fa34x0) ?_
 refine pl_val (.int .i64 a_.1) (y_load rfl ((box_load Ag3 Sz3 hb3 [] [(.int .i64 a_.1)] [(.slice pa0 pn0 pc0)] rfl rfl (fun _ => rfl)) _ (Chg.refl _ _))) ?_
 refine pl_val (.pointer (some ⟨g4, 0, none⟩)) (y_faddr rfl Fa34x0) ?_
 refine pl_val (.int .i64 b.1) (y_load rfl ((box_load Ag3 Sz3 hb4 [] [(.int .i64 b.1)] [(.slice pa1 pn1 pc1)] rfl rfl (fun _ => rfl)) _ (Chg.refl _ _))) ?_
 refine pl_val (.bool (a_.1 != b.1)) (y_neq rfl rfl) ?_
 refine c_nil ?_
 rcases bif_some hs with ⟨hc5, hs⟩ | ⟨hc5, hs⟩
 ·skip
  refine c_condT (congrArg Value.bool hc5) ?_
  refine c_seq (c_region ?_)
  refine pl_val (.bool false) (y_assign rfl) ?_
  refine c_nil ?_
  refine wp_ret ?_
  cases hs
  exact ⟨_, fr_ovl 16 ⟨rfl, trivial⟩, hC⟩
 ·skip
  refine c_condF (congrArg Value.bool hc5) ?_
  refine wp_skip ?_
  refine c_seq ?_
  refine c_seq (c_region ?_)
  refine pl_val (.pointer (some ⟨g3, 1, none⟩)) (y_faddr rfl Fa34x1) ?_
  refine pl_val (.slice pa0 pn0 pc0) (y_load rfl ((box_load Ag32 Sz32 hb3 [(.int .i64 a_.1)] [(.slice pa0 pn0 pc0)] [] rfl rfl (fun _ => rfl)) _ (Chg.refl _ _))) ?_
  refine pl_val (.pointer (some ⟨g4, 1, none⟩)) (y_faddr rfl Fa34x1) ?_
  refine pl_val (.slice pa1 pn1 pc1) (y_load rfl ((box_load Ag32 Sz32 hb4 [(.int .i64 b.1)] [(.slice pa1 pn1 pc1)] [] rfl rfl (fun _ => rfl)) _ (Chg.refl _ _))) ?_
  obtain ⟨r7, hr7, hs⟩ := bind_some hs
  refine pl_call Bd42 rfl (c_laws_eqOpS (M := M) a_.2 b.2 h0 h1 hO.fut hr7) ?_
  rintro _ w6 ⟨rfl, hC6⟩
  have h0 := h0.ext hC6
  have h1 := h1.ext hC6
  have hb3 := hb3.chg hC6 (fun h => nomatch h)
  have hb4 := hb4.chg hC6 (fun h => nomatch h)
  have hC := hC.ext hC6
  have hO := hO.ext hC6
  refine pl_val (.bool (!r7)) (y_not rfl) ?_
  refine c_nil ?_
  rcases bif_some hs with ⟨hc8, hs⟩ | ⟨hc8, hs⟩
  ·skip
   refine c_condT (congrArg Value.bool hc8) ?_
   refine c_seq (c_region ?_)
   refine pl_val (.bool false) (y_assign rfl) ?_
   refine c_nil ?_
   refine wp_ret ?_
   cases hs
   exact ⟨_, fr_ovl 16 ⟨rfl, trivial⟩, hC⟩
  ·skip
   refine c_condF (congrArg Value.bool hc8) ?_
   refine wp_skip ?_
   refine c_seq (c_region ?_)
   refine pl_val (.bool true) (y_assign rfl) ?_
   refine c_nil ?_
   refine wp_ret ?_
   cases hs
   exact ⟨_, fr_ovl 16 ⟨rfl, trivial⟩, hC⟩

def k_laws_markIntS (M : Nat → Prop) (w0 : World) (qa0 : Option Addr) (qn0 qc0 : Nat) (qf0 : List Nat) (r : Int × (List Int)) (a : Act) (w : World) : Prop :=
  ∃ (σ : Nat → Value) (rfi0 : List Nat), a = fr 19 (ovl σ [(4, (.int .i64 r.1))]) ∧ Chg (qf0 ++ ([])) w0 w ∧ (RT.os 3 (RT.int .i64)).val M w (.slice qa0 qn0 qc0) r.2 rfi0 ∧ Own (Nw w0 (qf0 ++ ([]))) (fun _ => True) w (rfi0 ++ ([]))
def s_laws_markIntS (a_ : List Int) (k : Int) : Option (Int × (List Int)) :=
  (iter (S := Int × Int × (List Int)) (R := Int × (List Int)) (fun s25 =>
  (bif (decide (s25.2.1 < (s25.2.2.length : Int))) then (idx s25.2.2 s25.2.1).bind fun x34 =>
  some (.nx (w64 (s25.1 + 1), w64 (s25.2.1 + 1), List.set s25.2.2 (Int.toNat s25.2.1) s25.1)) else some (.br (s25.1, s25.2.1, s25.2.2)))) FU (k, 0, a_)).bind fun o29 => after o29 (fun r_ => some r_) (fun s25 =>
  some (s25.1, s25.2.2))
set_option maxHeartbeats 4000000 in
theorem c_laws_markIntS {M : Nat → Prop} {w : World} {pa0 : Option Addr} {pn0 pc0 : Nat} {pf0 : List Nat} (a_ : List Int) (k : Int) (h0 : (RT.os 3 (RT.int .i64)).val M w (.slice pa0 pn0 pc0) a_ pf0) (hI : Own (Nw w (pf0 ++ ([]))) M w (pf0 ++ ([]))) (hM : ∀ g, w.heap.size ≤ g → M g) {r : Int × (List Int)} (hs : s_laws_markIntS a_ k = some r) :
    Gives Try.prog 53 [(.slice pa0 pn0 pc0), (.int .i64 k)] w (fun v w' => ∃ (rfi0 : List Nat), v = (.int .i64 r.1) ∧ Chg (pf0 ++ ([])) w w' ∧ (RT.os 3 (RT.int .i64)).val M w' (.slice pa0 pn0 pc0) r.2 rfi0 ∧ Own (Nw w (pf0 ++ ([]))) (fun _ => True) w' (rfi0 ++ ([]))) := by
 refine calls_fr Try.func53 rfl Try.ntmps53 (Nat.le_of_ble_eq_true rfl) ?_
 have hO := hI
 have hC := Chg.refl (pf0 ++ ([])) w
 unfold s_laws_markIntS at hs
 refine wp_mono (Q := KPost (k_laws_markIntS M w pa0 pn0 pc0 pf0 r)) ?_ (fun e a w1 h => ?_)
 rotate_left
 ·cases e
  case ret =>
   obtain ⟨σ, rfi0, rfl, hrest⟩ := h
   exact ret1x Try.results53 (res_tmp rfl) ⟨rfi0, rfl, hrest⟩
  all_goals exact (h : False).elim
 refine c_seq (c_region ?_)
 refine pl_val (.int .i64 0) (y_assign rfl) ?_
 refine c_nil ?_
 refine c_seq ?_
 refine c_seq (c_region ?_)
 refine pl_val (.int .i64 0) (y_assign rfl) ?_
 refine c_nil ?_
 obtain ⟨o29, hl30, hs⟩ := bind_some hs
 refine wp_block ?_
 refine wp_iter (id := 0) (I := fun s25 a w26 => ∃ (σ : Nat → Value) (f31 : List Nat), a = fr 19 (ovl σ [(0, (.slice pa0 pn0 pc0)), (1, (.int .i64 s25.1)), (5, (.int .i64 s25.2.1))]) ∧ Chg (pf0 ++ ([])) w w26 ∧ Own (Nw w (pf0 ++ ([]))) M w26 (f31 ++ []) ∧ (RT.os 3 (RT.int .i64)).val M w26 (.slice pa0 pn0 pc0) s25.2.2 f31) (J := fun s25 a w26 => ∃ (σ : Nat → Value) (f32 : List Nat), a = fr 19 (ovl σ [(1, (.int .i64 s25.1))]) ∧ Chg (pf0 ++ ([])) w w26 ∧ Own (Nw w (pf0 ++ ([]))) M w26 (f32 ++ []) ∧ (RT.os 3 (RT.int .i64)).val M w26 (.slice pa0 pn0 pc0) s25.2.2 f32) (K := (k_laws_markIntS M w pa0 pn0 pc0 pf0)) ?_ FU (k, 0, a_) o29 _ _ ?_ hl30 ?_
 ·rintro s25 o29 a w26 ⟨σ, f31, rfl, hC, hO, hv31⟩ hs
  refine c_seq ?_
  refine c_seq (c_region ?_)
  refine pl_val (.int .i64 s25.2.1) (y_move rfl) ?_
  refine pl_val (.slice pa0 pn0 pc0) (y_move rfl) ?_
  refine pl_val (.int .i64 (s25.2.2.length : Int)) (y_len' Sl25 (os_len hv31) rfl) ?_
  refine pl_val (.bool (decide (s25.2.1 < (s25.2.2.length : Int)))) (y_lss rfl rfl) ?_
  refine c_nil ?_
  rcases bif_some hs with ⟨hc33, hs⟩ | ⟨hc33, hs⟩
  ·skip
   refine c_condT (congrArg Value.bool hc33) ?_
   refine wp_skip ?_
   refine c_seq ?_
   refine wp_block ?_
   refine c_seq (c_region ?_)
   refine pl_val (.slice pa0 pn0 pc0) (y_move rfl) ?_
   refine pl_val (.int .i64 s25.2.1) (y_move rfl) ?_
   refine pl_val (.int .i64 s25.1) (y_move rfl) ?_
   obtain ⟨x34, hx34, hs⟩ := bind_some hs
   obtain ⟨g35, f35, hg35, hk35, hp35, ha35, hf35⟩ := os_idx Sl25 Sz3 hv31 hx34
   refine pl_val (.pointer (some ⟨g35, 0 + Int.toNat s25.2.1 * 1, none⟩)) (hp35 _ _ _ _ _ _ _ _ _ rfl rfl) ?_
   obtain ⟨w36, f36, hst36, hC36, hf36, hv36⟩ := os_store (P := Try.prog) (c' := [(.int .i64 s25.1)]) hg35 hv31 hk35 (fun g hg => hO.inM g (os_block hv31 g (by simpa using hg))) ⟨rfl, rfl⟩ List.nodup_nil (fun _ h => nomatch h) (fun _ h => .inl h)
   have hG36 : ∀ q ∈ [g35], q ∈ f31 := fun q hq => os_block hv31 q (by rw [hg35]; exact hq)
   refine pl_skip (w' := w36) (ys_store rfl rfl (hst36 _ _ rfl Sz3)) ?_
   have hC := hC.step hC36 (fun g hg => hO.inN g (hG36 g hg))
   have hO := hO.grow hC36 (fun q hq => .inl ((hf36 q hq).resolve_right (fun h => nomatch h))) (os_nodup hv36) hv36.fpl
   refine c_nil ?_
   refine c_region ?_
   refine pl_val (.int .i64 s25.1) (y_move rfl) ?_
   refine pl_val (.int .i64 (w64 (s25.1 + 1))) (y_add rfl rfl) ?_
   refine pl_val (.int .i64 (w64 (s25.1 + 1))) (y_assign rfl) ?_
   refine c_nil ?_
   refine c_region ?_
   refine pl_val (.int .i64 s25.2.1) (y_move rfl) ?_
   refine pl_val (.int .i64 (w64 (s25.2.1 + 1))) (y_add rfl rfl) ?_
   refine pl_val (.int .i64 (w64 (s25.2.1 + 1))) (y_assign rfl) ?_
   refine c_nil ?_
   cases hs
   exact ⟨_, f36, fr_ovl 19 ⟨rfl, rfl, rfl, trivial⟩, hC, hO, hv36⟩
  ·skip
   refine c_condF (congrArg Value.bool hc33) ?_
   refine wp_exit ?_
   cases hs
   exact ⟨rfl, _, f31, fr_ovl 19 ⟨rfl, trivial⟩, hC, hO, hv31⟩
 ·skip
  exact ⟨_, pf0, fr_ovl 19 ⟨rfl, rfl, rfl, trivial⟩, hC, hO, h0⟩
 ·cases o29 with
  | nx _ => exact True.intro
  | rt r_ =>
   have hs := after_rt hs
   intro a1 w1 hK
   cases hs
   exact hK
  | br s25 =>
   have hs := after_br hs
   rintro a1 w26 ⟨σ, f32, rfl, hC, hO, hv32⟩
   refine c_seq (c_region ?_)
   refine pl_val (.int .i64 s25.1) (y_move rfl) ?_
   refine pl_val (.int .i64 s25.1) (y_assign rfl) ?_
   refine c_nil ?_
   refine wp_ret ?_
   cases hs
   exact ⟨_, f32, fr_ovl 19 ⟨rfl, trivial⟩, hC, hv32, hO.top⟩

theorem Bd53 : Bodied Try.prog 53 := bodied Try.func53 (by kernel_rfl) rfl

def k_laws_markOpS (M : Nat → Prop) (w0 : World) (qa0 : Option Addr) (qn0 qc0 : Nat) (qf0 : List Nat) (r : Int × (List (Int × (List Int)))) (a : Act) (w : World) : Prop :=
  ∃ (σ : Nat → Value) (rfi0 : List Nat), a = fr 27 (ovl σ [(4, (.int .i64 r.1))]) ∧ Chg (qf0 ++ ([])) w0 w ∧ (RT.os 36 (RT.pr (RT.int .i64) (RT.os 3 (RT.int .i64)))).val M w (.slice qa0 qn0 qc0) r.2 rfi0 ∧ Own (Nw w0 (qf0 ++ ([]))) (fun _ => True) w (rfi0 ++ ([]))
def s_laws_markOpS (a_ : List (Int × (List Int))) (k : Int) : Option (Int × (List (Int × (List Int)))) :=
  (iter (S := Int × Int × (List (Int × (List Int)))) (R := Int × (List (Int × (List Int)))) (fun s57 =>
  (bif (decide (s57.2.1 < (s57.2.2.length : Int))) then (idx s57.2.2 s57.2.1).bind fun x67 =>
  (idx (List.set s57.2.2 (Int.toNat s57.2.1) (s57.1, x67.2)) s57.2.1).bind fun x71 =>
  (s_laws_markIntS x71.2 (w64 (s57.1 + 1))).bind fun r77 =>
  some (.nx (r77.1, w64 (s57.2.1 + 1), List.set (List.set s57.2.2 (Int.toNat s57.2.1) (s57.1, x67.2)) (Int.toNat s57.2.1) (x71.1, r77.2))) else some (.br (s57.1, s57.2.1, s57.2.2)))) FU (k, 0, a_)).bind fun o61 => after o61 (fun r_ => some r_) (fun s57 =>
  some (s57.1, s57.2.2))
set_option maxHeartbeats 4000000 in
theorem c_laws_markOpS {M : Nat → Prop} {w : World} {pa0 : Option Addr} {pn0 pc0 : Nat} {pf0 : List Nat} (a_ : List (Int × (List Int))) (k : Int) (h0 : (RT.os 36 (RT.pr (RT.int .i64) (RT.os 3 (RT.int .i64)))).val M w (.slice pa0 pn0 pc0) a_ pf0) (hI : Own (Nw w (pf0 ++ ([]))) M w (pf0 ++ ([]))) (hM : ∀ g, w.heap.size ≤ g → M g) {r : Int × (List (Int × (List Int)))} (hs : s_laws_markOpS a_ k = some r) :
    Gives Try.prog 48 [(.slice pa0 pn0 pc0), (.int .i64 k)] w (fun v w' => ∃ (rfi0 : List Nat), v = (.int .i64 r.1) ∧ Chg (pf0 ++ ([])) w w' ∧ (RT.os 36 (RT.pr (RT.int .i64) (RT.os 3 (RT.int .i64)))).val M w' (.slice pa0 pn0 pc0) r.2 rfi0 ∧ Own (Nw w (pf0 ++ ([]))) (fun _ => True) w' (rfi0 ++ ([]))) := by
 refine calls_fr Try.func48 rfl Try.ntmps48 (Nat.le_of_ble_eq_true rfl) ?_
 have hO := hI
 have hC := Chg.refl (pf0 ++ ([])) w
 unfold s_laws_markOpS at hs
 refine wp_mono (Q := KPost (k_laws_markOpS M w pa0 pn0 pc0 pf0 r)) ?_ (fun e a w1 h => ?_)
 rotate_left
 ·cases e
  case ret =>
   obtain ⟨σ, rfi0, rfl, hrest⟩ := h
   exact ret1x Try.results48 (res_tmp rfl) ⟨rfi0, rfl, hrest⟩
  all_goals exact (h : False).elim
 refine c_seq (c_region ?_)
 refine pl_val (.int .i64 0) (y_assign rfl) ?_
 refine c_nil ?_
 refine c_seq ?_
 refine c_seq (c_region ?_)
 refine pl_val (.int .i64 0) (y_assign rfl) ?_
 refine c_nil ?_
 obtain ⟨o61, hl62, hs⟩ := bind_some hs
 refine wp_block ?_
 refine wp_iter (id := 0) (I := fun s57 a w58 => ∃ (σ : Nat → Value) (f63 : List Nat), a = fr 27 (ovl σ [(0, (.slice pa0 pn0 pc0)), (1, (.int .i64 s57.1)), (5, (.int .i64 s57.2.1))]) ∧ Chg (pf0 ++ ([])) w w58 ∧ Own (Nw w (pf0 ++ ([]))) M w58 (f63 ++ []) ∧ (RT.os 36 (RT.pr (RT.int .i64) (RT.os 3 (RT.int .i64)))).val M w58 (.slice pa0 pn0 pc0) s57.2.2 f63) (J := fun s57 a w58 => ∃ (σ : Nat → Value) (f65 : List Nat), a = fr 27 (ovl σ [(1, (.int .i64 s57.1))]) ∧ Chg (pf0 ++ ([])) w w58 ∧ Own (Nw w (pf0 ++ ([]))) M w58 (f65 ++ []) ∧ (RT.os 36 (RT.pr (RT.int .i64) (RT.os 3 (RT.int .i64)))).val M w58 (.slice pa0 pn0 pc0) s57.2.2 f65) (K := (k_laws_markOpS M w pa0 pn0 pc0 pf0)) ?_ FU (k, 0, a_) o61 _ _ ?_ hl62 ?_
 ·rintro s57 o61 a w58 ⟨σ, f63, rfl, hC, hO, hv63⟩ hs
  refine c_seq ?_
  refine c_seq (c_region ?_)
  refine pl_val (.int .i64 s57.2.1) (y_move rfl) ?_
  refine pl_val (.slice pa0 pn0 pc0) (y_move rfl) ?_
  refine pl_val (.int .i64 (s57.2.2.length : Int)) (y_len' Sl32 (os_len hv63) rfl) ?_
  refine pl_val (.bool (decide (s57.2.1 < (s57.2.2.length : Int)))) (y_lss rfl rfl) ?_
  refine c_nil ?_
  rcases bif_some hs with ⟨hc66, hs⟩ | ⟨hc66, hs⟩
  ·skip
   refine c_condT (congrArg Value.bool hc66) ?_
   refine wp_skip ?_
   refine c_seq ?_
   refine wp_block ?_
   refine c_seq (c_region ?_)
   refine pl_val (.slice pa0 pn0 pc0) (y_move rfl) ?_
   refine pl_val (.int .i64 s57.2.1) (y_move rfl) ?_
   refine pl_val (.int .i64 s57.1) (y_move rfl) ?_
   obtain ⟨x67, hx67, hs⟩ := bind_some hs
   obtain ⟨g68, f68, hg68, hk68, hp68, ha68, hf68⟩ := os_idx Sl32 Sz36 hv63 hx67
   have hb68 := own_row (Frz.pr Frz.int (Frz.os Frz.int)) ha68 hf68
   refine pl_val (.pointer (some ⟨g68, 0 + Int.toNat s57.2.1 * 2, none⟩)) (hp68 _ _ _ _ _ _ _ _ _ rfl rfl) ?_
   obtain ⟨hq69, _⟩ := pr_at hb68
   refine pl_val (.pointer (some ⟨g68, (0 + Int.toNat s57.2.1 * 2) + 0, none⟩)) (y_faddr rfl Fa36x0) ?_
   obtain ⟨L170, c70, L270, fq70, hL70, hc70, hbx70, hr70, hsf70, hnf70, hgi70, hgn70, hput70⟩ := os_focus hg68 hv63 hx67 hO.inM
   obtain ⟨c70x1, d70x1, f70x1, k70x1, rfl, rfl, hl70x1, ht70x1⟩ := hr70
   obtain ⟨rfl, rfl⟩ := hl70x1
   have hn70x1 := RT.len _ ht70x1
   obtain ⟨w70, hst70, hC70, hb70⟩ := box_store (P := Try.prog) hbx70 (L170) [(Value.int .i64 x67.1)] (d70x1 ++ (L270)) [(Value.int .i64 s57.1)] (by simp) rfl (by intro u hu; rw [List.mem_singleton.1 hu]; rfl)
   have hA70 : (L170).length = ((0 + Int.toNat s57.2.1 * 2) + 0) := by
    simp only [List.length_append, hL70]
    try rfl
   rw [hA70] at hst70
   have hGM70 : ∀ q ∈ [g68], M q ∨ (w58).heap.size ≤ q := fun q hq => .inl (by rw [List.mem_singleton.1 hq]; exact hO.inM _ hgi70)
   obtain ⟨fz70, hv70, hf70⟩ := hput70 w70 [g68] ([(Value.int .i64 s57.1)] ++ d70x1) (s57.1, x67.2) (([] : List Nat) ++ k70x1) hC70 (fun q hq => .inl (List.mem_singleton.1 hq)) (by simpa using hb70) ⟨_, _, _, _, rfl, rfl, ⟨rfl, rfl⟩, (RT.mono _ ht70x1 hC70 hGM70 (fun q hq hq' => hgn70 (by rw [List.mem_singleton.1 hq] at hq'; simp [hq'])) (fun _ h => .inl h))⟩ hnf70 (fun q hq => .inl hq)
   refine pl_skip (w' := w70) (ys_store rfl rfl (hst70 _ _ rfl Sz3)) ?_
   have hG70 : ∀ q ∈ [g68], q ∈ f63 := fun q hq => by rw [List.mem_singleton.1 hq]; exact hgi70
   have hC := hC.step hC70 (fun g hg => hO.inN g (hG70 g hg))
   have hO := hO.grow hC70 hf70 (os_nodup hv70) hv70.fpl
   refine c_nil ?_
   refine c_seq (c_region ?_)
   refine pl_val (.int .i64 s57.1) (y_move rfl) ?_
   refine pl_val (.int .i64 (w64 (s57.1 + 1))) (y_add rfl rfl) ?_
   refine pl_val (.int .i64 (w64 (s57.1 + 1))) (y_assign rfl) ?_
   refine c_nil ?_
   refine c_region ?_
   refine pl_val (.slice pa0 pn0 pc0) (y_move rfl) ?_
   refine pl_val (.int .i64 s57.2.1) (y_move rfl) ?_
   obtain ⟨x71, hx71, hs⟩ := bind_some hs
   obtain ⟨g72, f72, hg72, hk72, hp72, ha72, hf72⟩ := os_idx Sl32 Sz36 hv70 hx71
   have hb72 := own_row (Frz.pr Frz.int (Frz.os Frz.int)) ha72 hf72
   refine pl_val (.pointer (some ⟨g72, 0 + Int.toNat s57.2.1 * 2, none⟩)) (hp72 _ _ _ _ _ _ _ _ _ rfl rfl) ?_
   obtain ⟨_, hq73x0⟩ := pr_at hb72
   refine pl_val (.pointer (some ⟨g72, (0 + Int.toNat s57.2.1 * 2) + 1, none⟩)) (y_faddr rfl Fa36x1) ?_
   obtain ⟨cs74, hrow74, hr74⟩ := at_open hb72
   obtain ⟨cc74x1, cd74x1, rfl, hh74x1, ht74x1⟩ := pr_open hr74
   obtain rfl := int_rel hh74x1
   obtain ⟨a74x2, n74x2, c74x2, rfl, hv74x2⟩ := rs_rel ht74x1
   refine pl_val (.slice a74x2 n74x2 c74x2) (y_load rfl ((part_load (l1 := [(.int .i64 x71.1)]) (c := [(.slice a74x2 n74x2 c74x2)]) (l2 := []) Ag25 Sz25 hrow74 rfl rfl (fun _ => rfl)) _ (Chg.refl _ _))) ?_
   refine pl_val (.int .i64 (w64 (s57.1 + 1))) (y_move rfl) ?_
   obtain ⟨fg76, hrr76, hsf76, hnf76, hput76⟩ := os_put hg72 hv70 hx71 hrow74 rfl hO.inM
   obtain ⟨fa76x1, fb76x1, rfl, hp76x1, hq76x1⟩ := pr_split (c := [(.int .i64 x71.1)]) (d := [(.slice a74x2 n74x2 c74x2)]) hrr76 rfl
   obtain rfl := int_fp hp76x1
   have hg76x0 : (RT.os 3 (RT.int .i64)).val M w70 (.slice a74x2 n74x2 c74x2) x71.2 fb76x1 := ⟨[_], rfl, hq76x1⟩
   have hfs76 : ∀ q ∈ (fb76x1 ++ ([])), q ∈ fz70 := fun q hq => hsf76 q (by simpa using hq)
   have hfn76 : List.Nodup (fb76x1 ++ ([])) := by simpa using hnf76
   have hL76 := hO
   have hI76 := Own.part (X := (fb76x1 ++ ([]))) (hL76) hfs76 hfn76
   obtain ⟨r77, hr77, hs⟩ := bind_some hs
   refine pl_call Bd53 rfl (c_laws_markIntS (M := M) x71.2 (w64 (s57.1 + 1)) hg76x0 hI76 hI76.fut hr77) ?_
   rintro _ w76 ⟨fi76x0, rfl, hC76, hvi76x0, hOc76⟩
   obtain ⟨fq76, hvq76, hsq76⟩ := hput76 w76 (fb76x1 ++ ([])) (x71.1, r77.2) (([] : List Nat) ++ fi76x0) hC76 (fun q hq => by simpa using hq) ⟨_, _, _, _, rfl, rfl, ⟨rfl, rfl⟩, (os_unval hvi76x0)⟩ (by simpa using hOc76.1) (fun q hq => (hOc76.2.1 q (by simpa using hq)).2.2.imp (fun h => by simpa using h) id)
   have hC := hC.step hC76 (fun g hg => hO.inN g (hfs76 g hg))
   have hO := hO.grow hC76 hsq76 (os_nodup hvq76) hvq76.fpl
   refine pl_val (.int .i64 r77.1) (y_assign rfl) ?_
   refine c_nil ?_
   refine c_region ?_
   refine pl_val (.int .i64 s57.2.1) (y_move rfl) ?_
   refine pl_val (.int .i64 (w64 (s57.2.1 + 1))) (y_add rfl rfl) ?_
   refine pl_val (.int .i64 (w64 (s57.2.1 + 1))) (y_assign rfl) ?_
   refine c_nil ?_
   cases hs
   exact ⟨_, fq76, fr_ovl 27 ⟨rfl, rfl, rfl, trivial⟩, hC, hO, hvq76⟩
  ·skip
   refine c_condF (congrArg Value.bool hc66) ?_
   refine wp_exit ?_
   cases hs
   exact ⟨rfl, _, f63, fr_ovl 27 ⟨rfl, trivial⟩, hC, hO, hv63⟩
 ·skip
  exact ⟨_, pf0, fr_ovl 27 ⟨rfl, rfl, rfl, trivial⟩, hC, hO, h0⟩
 ·cases o61 with
  | nx _ => exact True.intro
  | rt r_ =>
   have hs := after_rt hs
   intro a1 w1 hK
   cases hs
   exact hK
  | br s57 =>
   have hs := after_br hs
   rintro a1 w58 ⟨σ, f65, rfl, hC, hO, hv65⟩
   refine c_seq (c_region ?_)
   refine pl_val (.int .i64 s57.1) (y_move rfl) ?_
   refine pl_val (.int .i64 s57.1) (y_assign rfl) ?_
   refine c_nil ?_
   refine wp_ret ?_
   cases hs
   exact ⟨_, f65, fr_ovl 27 ⟨rfl, trivial⟩, hC, hv65, hO.top⟩

theorem Bd48 : Bodied Try.prog 48 := bodied Try.func48 (by kernel_rfl) rfl

def k_laws_markAlgebra (M : Nat → Prop) (w0 : World) (qa0 : Option Addr) (qn0 qc0 : Nat) (qf0 : List Nat) (r : Int × (List (Int × (List Int)))) (a : Act) (w : World) : Prop :=
  ∃ (σ : Nat → Value) (rfi0 : List Nat), a = fr 10 (ovl σ [(4, (.int .i64 r.1))]) ∧ Chg (qf0 ++ ([])) w0 w ∧ (RT.os 36 (RT.pr (RT.int .i64) (RT.os 3 (RT.int .i64)))).val M w (.slice qa0 qn0 qc0) r.2 rfi0 ∧ Own (Nw w0 (qf0 ++ ([]))) (fun _ => True) w (rfi0 ++ ([]))
def s_laws_markAlgebra (a_ : Int × (List (Int × (List Int)))) (k : Int) : Option (Int × (List (Int × (List Int)))) :=
  (s_laws_markOpS a_.2 k).bind fun r4 =>
  some (r4.1, r4.2)
set_option maxHeartbeats 4000000 in
theorem c_laws_markAlgebra {M : Nat → Prop} {w : World} {pa0 : Option Addr} {pn0 pc0 : Nat} {pf0 : List Nat} (a_ : Int × (List (Int × (List Int)))) (k : Int) (h0 : (RT.os 36 (RT.pr (RT.int .i64) (RT.os 3 (RT.int .i64)))).val M w (.slice pa0 pn0 pc0) a_.2 pf0) (hI : Own (Nw w (pf0 ++ ([]))) M w (pf0 ++ ([]))) (hM : ∀ g, w.heap.size ≤ g → M g) {r : Int × (List (Int × (List Int)))} (hs : s_laws_markAlgebra a_ k = some r) :
    Gives Try.prog 21 [(.agg #[(.int .i64 a_.1), (.slice pa0 pn0 pc0)]), (.int .i64 k)] w (fun v w' => ∃ (rfi0 : List Nat), v = (.int .i64 r.1) ∧ Chg (pf0 ++ ([])) w w' ∧ (RT.os 36 (RT.pr (RT.int .i64) (RT.os 3 (RT.int .i64)))).val M w' (.slice pa0 pn0 pc0) r.2 rfi0 ∧ Own (Nw w (pf0 ++ ([]))) (fun _ => True) w' (rfi0 ++ ([]))) := by
 refine calls_fr Try.func21 rfl Try.ntmps21 (Nat.le_of_ble_eq_true rfl) ?_
 have hO := hI
 have hC := Chg.refl (pf0 ++ ([])) w
 unfold s_laws_markAlgebra at hs
 refine wp_mono (Q := KPost (k_laws_markAlgebra M w pa0 pn0 pc0 pf0 r)) ?_ (fun e a w1 h => ?_)
 rotate_left
 ·cases e
  case ret =>
   obtain ⟨σ, rfi0, rfl, hrest⟩ := h
   exact ret1x Try.results21 (res_tmp rfl) ⟨rfi0, rfl, hrest⟩
  all_goals exact (h : False).elim
 refine c_seq (c_region ?_)
 obtain ⟨w2, g2, ew2, eg2, hC2, hb2⟩ := new_block w [(.int .i64 a_.1), (.slice pa0 pn0 pc0)] 34
 refine pl_val (w' := w2) (.pointer (some ⟨g2, 0, none⟩)) (y_box rfl (by rw [ew2, eg2]; kernel_rfl)) ?_
 have h0 := h0.ext hC2
 have hC := hC.ext hC2
 have hO := hO.new1 hC2 eg2 hb2.lt
 refine pl_val (.int .i64 0) (y_assign rfl) ?_
 refine c_nil ?_
 refine c_seq (c_region ?_)
 refine pl_val (.pointer (some ⟨g2, 1, none⟩)) (y_faddr rfl Fa34x1) ?_
 refine pl_val (.slice pa0 pn0 pc0) (y_load rfl ((box_load Ag32 Sz32 hb2 [(.int .i64 a_.1)] [(.slice pa0 pn0 pc0)] [] rfl rfl (fun _ => rfl)) _ (Chg.refl _ _))) ?_
 refine pl_val (.int .i64 k) (y_move rfl) ?_
 have hO := hO.fr1
 have hL3 := hO
 have hI3 := Own.lend (F := (pf0 ++ ([]))) (R := ([g2]) ++ ([])) (Own.perm (hL3) (by simp))
 obtain ⟨r4, hr4, hs⟩ := bind_some hs
 refine pl_call Bd48 rfl (c_laws_markOpS (M := M) a_.2 k h0 hI3 hI3.fut hr4) ?_
 rintro _ w3 ⟨fi3x0, rfl, hC3, hvi3x0, hOc3⟩
 have hO := hO.perm (R := (pf0 ++ ([])) ++ (([g2]) ++ ([]))) (by simp)
 have hb2 := hb2.chg hC3 (fun hg => hO.apart _ ((fun _ h => h) _ hg) (mem_l (List.mem_singleton.2 rfl)))
 have hC := hC.step hC3 (fun g hg => hO.inN g ((fun _ h => h) g hg))
 have hO := Own.join hO hC3 hOc3
 have hO := hO.perm (R := fi3x0 ++ (([g2]) ++ ([]))) (by simp)
 refine pl_val (.int .i64 r4.1) (y_assign rfl) ?_
 refine c_nil ?_
 refine c_seq (c_region ?_)
 refine pl_val (.int .i64 r4.1) (y_move rfl) ?_
 refine pl_val (.int .i64 r4.1) (y_assign rfl) ?_
 refine c_nil ?_
 refine wp_ret ?_
 cases hs
 have hO := hO.fr1
 have hO := hO.drop
 exact ⟨_, fi3x0, fr_ovl 10 ⟨rfl, trivial⟩, hC, hvi3x0, hO.top⟩

def k_laws_markIntSS (M : Nat → Prop) (w0 : World) (qa0 : Option Addr) (qn0 qc0 : Nat) (qf0 : List Nat) (r : Int × (List (List Int))) (a : Act) (w : World) : Prop :=
  ∃ (σ : Nat → Value) (rfi0 : List Nat), a = fr 19 (ovl σ [(4, (.int .i64 r.1))]) ∧ Chg (qf0 ++ ([])) w0 w ∧ (RT.os 25 (RT.os 3 (RT.int .i64))).val M w (.slice qa0 qn0 qc0) r.2 rfi0 ∧ Own (Nw w0 (qf0 ++ ([]))) (fun _ => True) w (rfi0 ++ ([]))
def s_laws_markIntSS (a_ : List (List Int)) (k : Int) : Option (Int × (List (List Int))) :=
  (iter (S := Int × Int × (List (List Int))) (R := Int × (List (List Int))) (fun s37 =>
  (bif (decide (s37.2.1 < (s37.2.2.length : Int))) then (idx s37.2.2 s37.2.1).bind fun x46 =>
  (s_laws_markIntS x46 s37.1).bind fun r51 =>
  some (.nx (r51.1, w64 (s37.2.1 + 1), List.set s37.2.2 (Int.toNat s37.2.1) r51.2)) else some (.br (s37.1, s37.2.1, s37.2.2)))) FU (k, 0, a_)).bind fun o41 => after o41 (fun r_ => some r_) (fun s37 =>
  some (s37.1, s37.2.2))
set_option maxHeartbeats 4000000 in
theorem c_laws_markIntSS {M : Nat → Prop} {w : World} {pa0 : Option Addr} {pn0 pc0 : Nat} {pf0 : List Nat} (a_ : List (List Int)) (k : Int) (h0 : (RT.os 25 (RT.os 3 (RT.int .i64))).val M w (.slice pa0 pn0 pc0) a_ pf0) (hI : Own (Nw w (pf0 ++ ([]))) M w (pf0 ++ ([]))) (hM : ∀ g, w.heap.size ≤ g → M g) {r : Int × (List (List Int))} (hs : s_laws_markIntSS a_ k = some r) :
    Gives Try.prog 49 [(.slice pa0 pn0 pc0), (.int .i64 k)] w (fun v w' => ∃ (rfi0 : List Nat), v = (.int .i64 r.1) ∧ Chg (pf0 ++ ([])) w w' ∧ (RT.os 25 (RT.os 3 (RT.int .i64))).val M w' (.slice pa0 pn0 pc0) r.2 rfi0 ∧ Own (Nw w (pf0 ++ ([]))) (fun _ => True) w' (rfi0 ++ ([]))) := by
 refine calls_fr Try.func49 rfl Try.ntmps49 (Nat.le_of_ble_eq_true rfl) ?_
 have hO := hI
 have hC := Chg.refl (pf0 ++ ([])) w
 unfold s_laws_markIntSS at hs
 refine wp_mono (Q := KPost (k_laws_markIntSS M w pa0 pn0 pc0 pf0 r)) ?_ (fun e a w1 h => ?_)
 rotate_left
 ·cases e
  case ret =>
   obtain ⟨σ, rfi0, rfl, hrest⟩ := h
   exact ret1x Try.results49 (res_tmp rfl) ⟨rfi0, rfl, hrest⟩
  all_goals exact (h : False).elim
 refine c_seq (c_region ?_)
 refine pl_val (.int .i64 0) (y_assign rfl) ?_
 refine c_nil ?_
 refine c_seq ?_
 refine c_seq (c_region ?_)
 refine pl_val (.int .i64 0) (y_assign rfl) ?_
 refine c_nil ?_
 obtain ⟨o41, hl42, hs⟩ := bind_some hs
 refine wp_block ?_
 refine wp_iter (id := 0) (I := fun s37 a w38 => ∃ (σ : Nat → Value) (f43 : List Nat), a = fr 19 (ovl σ [(0, (.slice pa0 pn0 pc0)), (1, (.int .i64 s37.1)), (5, (.int .i64 s37.2.1))]) ∧ Chg (pf0 ++ ([])) w w38 ∧ Own (Nw w (pf0 ++ ([]))) M w38 (f43 ++ []) ∧ (RT.os 25 (RT.os 3 (RT.int .i64))).val M w38 (.slice pa0 pn0 pc0) s37.2.2 f43) (J := fun s37 a w38 => ∃ (σ : Nat → Value) (f44 : List Nat), a = fr 19 (ovl σ [(1, (.int .i64 s37.1))]) ∧ Chg (pf0 ++ ([])) w w38 ∧ Own (Nw w (pf0 ++ ([]))) M w38 (f44 ++ []) ∧ (RT.os 25 (RT.os 3 (RT.int .i64))).val M w38 (.slice pa0 pn0 pc0) s37.2.2 f44) (K := (k_laws_markIntSS M w pa0 pn0 pc0 pf0)) ?_ FU (k, 0, a_) o41 _ _ ?_ hl42 ?_
 ·rintro s37 o41 a w38 ⟨σ, f43, rfl, hC, hO, hv43⟩ hs
  refine c_seq ?_
  refine c_seq (c_region ?_)
  refine pl_val (.int .i64 s37.2.1) (y_move rfl) ?_
  refine pl_val (.slice pa0 pn0 pc0) (y_move rfl) ?_
  refine pl_val (.int .i64 (s37.2.2.length : Int)) (y_len' Sl49 (os_len hv43) rfl) ?_
  refine pl_val (.bool (decide (s37.2.1 < (s37.2.2.length : Int)))) (y_lss rfl rfl) ?_
  refine c_nil ?_
  rcases bif_some hs with ⟨hc45, hs⟩ | ⟨hc45, hs⟩
  ·skip
   refine c_condT (congrArg Value.bool hc45) ?_
   refine wp_skip ?_
   refine c_seq ?_
   refine wp_block ?_
   refine c_region ?_
   refine pl_val (.slice pa0 pn0 pc0) (y_move rfl) ?_
   refine pl_val (.int .i64 s37.2.1) (y_move rfl) ?_
   obtain ⟨x46, hx46, hs⟩ := bind_some hs
   obtain ⟨g47, f47, hg47, hk47, hp47, ha47, hf47⟩ := os_idx Sl49 Sz25 hv43 hx46
   have hb47 := own_row (Frz.os Frz.int) ha47 hf47
   refine pl_val (.pointer (some ⟨g47, 0 + Int.toNat s37.2.1 * 1, none⟩)) (hp47 _ _ _ _ _ _ _ _ _ rfl rfl) ?_
   obtain ⟨v48, hl48, hrow48, hv48⟩ := at_load1 Ag25 Sz25 rfl rfl hb47
   obtain ⟨a48, n48, c48, rfl⟩ := rs_sl hv48
   refine pl_val (.slice a48 n48 c48) (y_load rfl (hl48 _ (Chg.refl _ _))) ?_
   refine pl_val (.int .i64 s37.1) (y_move rfl) ?_
   obtain ⟨fg50, hrr50, hsf50, hnf50, hput50⟩ := os_put hg47 hv43 hx46 hrow48 rfl hO.inM
   have hg50x0 : (RT.os 3 (RT.int .i64)).val M w38 (.slice a48 n48 c48) x46 fg50 := ⟨[_], rfl, hrr50⟩
   have hfs50 : ∀ q ∈ (fg50 ++ ([])), q ∈ f43 := fun q hq => hsf50 q (by simpa using hq)
   have hfn50 : List.Nodup (fg50 ++ ([])) := by simpa using hnf50
   have hL50 := hO
   have hI50 := Own.part (X := (fg50 ++ ([]))) (hL50) hfs50 hfn50
   obtain ⟨r51, hr51, hs⟩ := bind_some hs
   refine pl_call Bd53 rfl (c_laws_markIntS (M := M) x46 s37.1 hg50x0 hI50 hI50.fut hr51) ?_
   rintro _ w50 ⟨fi50x0, rfl, hC50, hvi50x0, hOc50⟩
   obtain ⟨fq50, hvq50, hsq50⟩ := hput50 w50 (fg50 ++ ([])) r51.2 fi50x0 hC50 (fun q hq => by simpa using hq) (os_unval hvi50x0) (by simpa using hOc50.1) (fun q hq => (hOc50.2.1 q (by simpa using hq)).2.2.imp (fun h => by simpa using h) id)
   have hC := hC.step hC50 (fun g hg => hO.inN g (hfs50 g hg))
   have hO := hO.grow hC50 hsq50 (os_nodup hvq50) hvq50.fpl
   refine pl_val (.int .i64 r51.1) (y_assign rfl) ?_
   refine c_nil ?_
   refine c_region ?_
   refine pl_val (.int .i64 s37.2.1) (y_move rfl) ?_
   refine pl_val (.int .i64 (w64 (s37.2.1 + 1))) (y_add rfl rfl) ?_
   refine pl_val (.int .i64 (w64 (s37.2.1 + 1))) (y_assign rfl) ?_
   refine c_nil ?_
   cases hs
   exact ⟨_, fq50, fr_ovl 19 ⟨rfl, rfl, rfl, trivial⟩, hC, hO, hvq50⟩
  ·skip
   refine c_condF (congrArg Value.bool hc45) ?_
   refine wp_exit ?_
   cases hs
   exact ⟨rfl, _, f43, fr_ovl 19 ⟨rfl, trivial⟩, hC, hO, hv43⟩
 ·skip
  exact ⟨_, pf0, fr_ovl 19 ⟨rfl, rfl, rfl, trivial⟩, hC, hO, h0⟩
 ·cases o41 with
  | nx _ => exact True.intro
  | rt r_ =>
   have hs := after_rt hs
   intro a1 w1 hK
   cases hs
   exact hK
  | br s37 =>
   have hs := after_br hs
   rintro a1 w38 ⟨σ, f44, rfl, hC, hO, hv44⟩
   refine c_seq (c_region ?_)
   refine pl_val (.int .i64 s37.1) (y_move rfl) ?_
   refine pl_val (.int .i64 s37.1) (y_assign rfl) ?_
   refine c_nil ?_
   refine wp_ret ?_
   cases hs
   exact ⟨_, f44, fr_ovl 19 ⟨rfl, trivial⟩, hC, hv44, hO.top⟩

theorem Bd49 : Bodied Try.prog 49 := bodied Try.func49 (by kernel_rfl) rfl

def k_laws_markRelationS (M : Nat → Prop) (w0 : World) (qa0 : Option Addr) (qn0 qc0 : Nat) (qf0 : List Nat) (r : Int × (List (Int × (List (List Int))))) (a : Act) (w : World) : Prop :=
  ∃ (σ : Nat → Value) (rfi0 : List Nat), a = fr 27 (ovl σ [(4, (.int .i64 r.1))]) ∧ Chg (qf0 ++ ([])) w0 w ∧ (RT.os 51 (RT.pr (RT.int .i64) (RT.os 25 (RT.os 3 (RT.int .i64))))).val M w (.slice qa0 qn0 qc0) r.2 rfi0 ∧ Own (Nw w0 (qf0 ++ ([]))) (fun _ => True) w (rfi0 ++ ([]))
def s_laws_markRelationS (a_ : List (Int × (List (List Int)))) (k : Int) : Option (Int × (List (Int × (List (List Int))))) :=
  (iter (S := Int × Int × (List (Int × (List (List Int))))) (R := Int × (List (Int × (List (List Int))))) (fun s57 =>
  (bif (decide (s57.2.1 < (s57.2.2.length : Int))) then (idx s57.2.2 s57.2.1).bind fun x67 =>
  (idx (List.set s57.2.2 (Int.toNat s57.2.1) (s57.1, x67.2)) s57.2.1).bind fun x71 =>
  (s_laws_markIntSS x71.2 (w64 (s57.1 + 1))).bind fun r77 =>
  some (.nx (r77.1, w64 (s57.2.1 + 1), List.set (List.set s57.2.2 (Int.toNat s57.2.1) (s57.1, x67.2)) (Int.toNat s57.2.1) (x71.1, r77.2))) else some (.br (s57.1, s57.2.1, s57.2.2)))) FU (k, 0, a_)).bind fun o61 => after o61 (fun r_ => some r_) (fun s57 =>
  some (s57.1, s57.2.2))
set_option maxHeartbeats 4000000 in
theorem c_laws_markRelationS {M : Nat → Prop} {w : World} {pa0 : Option Addr} {pn0 pc0 : Nat} {pf0 : List Nat} (a_ : List (Int × (List (List Int)))) (k : Int) (h0 : (RT.os 51 (RT.pr (RT.int .i64) (RT.os 25 (RT.os 3 (RT.int .i64))))).val M w (.slice pa0 pn0 pc0) a_ pf0) (hI : Own (Nw w (pf0 ++ ([]))) M w (pf0 ++ ([]))) (hM : ∀ g, w.heap.size ≤ g → M g) {r : Int × (List (Int × (List (List Int))))} (hs : s_laws_markRelationS a_ k = some r) :
    Gives Try.prog 22 [(.slice pa0 pn0 pc0), (.int .i64 k)] w (fun v w' => ∃ (rfi0 : List Nat), v = (.int .i64 r.1) ∧ Chg (pf0 ++ ([])) w w' ∧ (RT.os 51 (RT.pr (RT.int .i64) (RT.os 25 (RT.os 3 (RT.int .i64))))).val M w' (.slice pa0 pn0 pc0) r.2 rfi0 ∧ Own (Nw w (pf0 ++ ([]))) (fun _ => True) w' (rfi0 ++ ([]))) := by
 refine calls_fr Try.func22 rfl Try.ntmps22 (Nat.le_of_ble_eq_true rfl) ?_
 have hO := hI
 have hC := Chg.refl (pf0 ++ ([])) w
 unfold s_laws_markRelationS at hs
 refine wp_mono (Q := KPost (k_laws_markRelationS M w pa0 pn0 pc0 pf0 r)) ?_ (fun e a w1 h => ?_)
 rotate_left
 ·cases e
  case ret =>
   obtain ⟨σ, rfi0, rfl, hrest⟩ := h
   exact ret1x Try.results22 (res_tmp rfl) ⟨rfi0, rfl, hrest⟩
  all_goals exact (h : False).elim
 refine c_seq (c_region ?_)
 refine pl_val (.int .i64 0) (y_assign rfl) ?_
 refine c_nil ?_
 refine c_seq ?_
 refine c_seq (c_region ?_)
 refine pl_val (.int .i64 0) (y_assign rfl) ?_
 refine c_nil ?_
 obtain ⟨o61, hl62, hs⟩ := bind_some hs
 refine wp_block ?_
 refine wp_iter (id := 0) (I := fun s57 a w58 => ∃ (σ : Nat → Value) (f63 : List Nat), a = fr 27 (ovl σ [(0, (.slice pa0 pn0 pc0)), (1, (.int .i64 s57.1)), (5, (.int .i64 s57.2.1))]) ∧ Chg (pf0 ++ ([])) w w58 ∧ Own (Nw w (pf0 ++ ([]))) M w58 (f63 ++ []) ∧ (RT.os 51 (RT.pr (RT.int .i64) (RT.os 25 (RT.os 3 (RT.int .i64))))).val M w58 (.slice pa0 pn0 pc0) s57.2.2 f63) (J := fun s57 a w58 => ∃ (σ : Nat → Value) (f65 : List Nat), a = fr 27 (ovl σ [(1, (.int .i64 s57.1))]) ∧ Chg (pf0 ++ ([])) w w58 ∧ Own (Nw w (pf0 ++ ([]))) M w58 (f65 ++ []) ∧ (RT.os 51 (RT.pr (RT.int .i64) (RT.os 25 (RT.os 3 (RT.int .i64))))).val M w58 (.slice pa0 pn0 pc0) s57.2.2 f65) (K := (k_laws_markRelationS M w pa0 pn0 pc0 pf0)) ?_ FU (k, 0, a_) o61 _ _ ?_ hl62 ?_
 ·rintro s57 o61 a w58 ⟨σ, f63, rfl, hC, hO, hv63⟩ hs
  refine c_seq ?_
  refine c_seq (c_region ?_)
  refine pl_val (.int .i64 s57.2.1) (y_move rfl) ?_
  refine pl_val (.slice pa0 pn0 pc0) (y_move rfl) ?_
  refine pl_val (.int .i64 (s57.2.2.length : Int)) (y_len' Sl43 (os_len hv63) rfl) ?_
  refine pl_val (.bool (decide (s57.2.1 < (s57.2.2.length : Int)))) (y_lss rfl rfl) ?_
  refine c_nil ?_
  rcases bif_some hs with ⟨hc66, hs⟩ | ⟨hc66, hs⟩
  ·skip
   refine c_condT (congrArg Value.bool hc66) ?_
   refine wp_skip ?_
   refine c_seq ?_
   refine wp_block ?_
   refine c_seq (c_region ?_)
   refine pl_val (.slice pa0 pn0 pc0) (y_move rfl) ?_
   refine pl_val (.int .i64 s57.2.1) (y_move rfl) ?_
   refine pl_val (.int .i64 s57.1) (y_move rfl) ?_
   obtain ⟨x67, hx67, hs⟩ := bind_some hs
   obtain ⟨g68, f68, hg68, hk68, hp68, ha68, hf68⟩ := os_idx Sl43 Sz51 hv63 hx67
   have hb68 := own_row (Frz.pr Frz.int (Frz.os (Frz.os Frz.int))) ha68 hf68
   refine pl_val (.pointer (some ⟨g68, 0 + Int.toNat s57.2.1 * 2, none⟩)) (hp68 _ _ _ _ _ _ _ _ _ rfl rfl) ?_
   obtain ⟨hq69, _⟩ := pr_at hb68
   refine pl_val (.pointer (some ⟨g68, (0 + Int.toNat s57.2.1 * 2) + 0, none⟩)) (y_faddr rfl Fa51x0) ?_
   obtain ⟨L170, c70, L270, fq70, hL70, hc70, hbx70, hr70, hsf70, hnf70, hgi70, hgn70, hput70⟩ := os_focus hg68 hv63 hx67 hO.inM
   obtain ⟨c70x1, d70x1, f70x1, k70x1, rfl, rfl, hl70x1, ht70x1⟩ := hr70
   obtain ⟨rfl, rfl⟩ := hl70x1
   have hn70x1 := RT.len _ ht70x1
   obtain ⟨w70, hst70, hC70, hb70⟩ := box_store (P := Try.prog) hbx70 (L170) [(Value.int .i64 x67.1)] (d70x1 ++ (L270)) [(Value.int .i64 s57.1)] (by simp) rfl (by intro u hu; rw [List.mem_singleton.1 hu]; rfl)
   have hA70 : (L170).length = ((0 + Int.toNat s57.2.1 * 2) + 0) := by
    simp only [List.length_append, hL70]
    try rfl
   rw [hA70] at hst70
   have hGM70 : ∀ q ∈ [g68], M q ∨ (w58).heap.size ≤ q := fun q hq => .inl (by rw [List.mem_singleton.1 hq]; exact hO.inM _ hgi70)
   obtain ⟨fz70, hv70, hf70⟩ := hput70 w70 [g68] ([(Value.int .i64 s57.1)] ++ d70x1) (s57.1, x67.2) (([] : List Nat) ++ k70x1) hC70 (fun q hq => .inl (List.mem_singleton.1 hq)) (by simpa using hb70) ⟨_, _, _, _, rfl, rfl, ⟨rfl, rfl⟩, (RT.mono _ ht70x1 hC70 hGM70 (fun q hq hq' => hgn70 (by rw [List.mem_singleton.1 hq] at hq'; simp [hq'])) (fun _ h => .inl h))⟩ hnf70 (fun q hq => .inl hq)
   refine pl_skip (w' := w70) (ys_store rfl rfl (hst70 _ _ rfl Sz3)) ?_
   have hG70 : ∀ q ∈ [g68], q ∈ f63 := fun q hq => by rw [List.mem_singleton.1 hq]; exact hgi70
   have hC := hC.step hC70 (fun g hg => hO.inN g (hG70 g hg))
   have hO := hO.grow hC70 hf70 (os_nodup hv70) hv70.fpl
   refine c_nil ?_
   refine c_seq (c_region ?_)
   refine pl_val (.int .i64 s57.1) (y_move rfl) ?_
   refine pl_val (.int .i64 (w64 (s57.1 + 1))) (y_add rfl rfl) ?_
   refine pl_val (.int .i64 (w64 (s57.1 + 1))) (y_assign rfl) ?_
   refine c_nil ?_
   refine c_region ?_
   refine pl_val (.slice pa0 pn0 pc0) (y_move rfl) ?_
   refine pl_val (.int .i64 s57.2.1) (y_move rfl) ?_
   obtain ⟨x71, hx71, hs⟩ := bind_some hs
   obtain ⟨g72, f72, hg72, hk72, hp72, ha72, hf72⟩ := os_idx Sl43 Sz51 hv70 hx71
   have hb72 := own_row (Frz.pr Frz.int (Frz.os (Frz.os Frz.int))) ha72 hf72
   refine pl_val (.pointer (some ⟨g72, 0 + Int.toNat s57.2.1 * 2, none⟩)) (hp72 _ _ _ _ _ _ _ _ _ rfl rfl) ?_
   obtain ⟨_, hq73x0⟩ := pr_at hb72
   refine pl_val (.pointer (some ⟨g72, (0 + Int.toNat s57.2.1 * 2) + 1, none⟩)) (y_faddr rfl Fa51x1) ?_
   obtain ⟨cs74, hrow74, hr74⟩ := at_open hb72
   obtain ⟨cc74x1, cd74x1, rfl, hh74x1, ht74x1⟩ := pr_open hr74
   obtain rfl := int_rel hh74x1
   obtain ⟨a74x2, n74x2, c74x2, rfl, hv74x2⟩ := rs_rel ht74x1
   refine pl_val (.slice a74x2 n74x2 c74x2) (y_load rfl ((part_load (l1 := [(.int .i64 x71.1)]) (c := [(.slice a74x2 n74x2 c74x2)]) (l2 := []) Ag49 Sz49 hrow74 rfl rfl (fun _ => rfl)) _ (Chg.refl _ _))) ?_
   refine pl_val (.int .i64 (w64 (s57.1 + 1))) (y_move rfl) ?_
   obtain ⟨fg76, hrr76, hsf76, hnf76, hput76⟩ := os_put hg72 hv70 hx71 hrow74 rfl hO.inM
   obtain ⟨fa76x1, fb76x1, rfl, hp76x1, hq76x1⟩ := pr_split (c := [(.int .i64 x71.1)]) (d := [(.slice a74x2 n74x2 c74x2)]) hrr76 rfl
   obtain rfl := int_fp hp76x1
   have hg76x0 : (RT.os 25 (RT.os 3 (RT.int .i64))).val M w70 (.slice a74x2 n74x2 c74x2) x71.2 fb76x1 := ⟨[_], rfl, hq76x1⟩
   have hfs76 : ∀ q ∈ (fb76x1 ++ ([])), q ∈ fz70 := fun q hq => hsf76 q (by simpa using hq)
   have hfn76 : List.Nodup (fb76x1 ++ ([])) := by simpa using hnf76
   have hL76 := hO
   have hI76 := Own.part (X := (fb76x1 ++ ([]))) (hL76) hfs76 hfn76
   obtain ⟨r77, hr77, hs⟩ := bind_some hs
   refine pl_call Bd49 rfl (c_laws_markIntSS (M := M) x71.2 (w64 (s57.1 + 1)) hg76x0 hI76 hI76.fut hr77) ?_
   rintro _ w76 ⟨fi76x0, rfl, hC76, hvi76x0, hOc76⟩
   obtain ⟨fq76, hvq76, hsq76⟩ := hput76 w76 (fb76x1 ++ ([])) (x71.1, r77.2) (([] : List Nat) ++ fi76x0) hC76 (fun q hq => by simpa using hq) ⟨_, _, _, _, rfl, rfl, ⟨rfl, rfl⟩, (os_unval hvi76x0)⟩ (by simpa using hOc76.1) (fun q hq => (hOc76.2.1 q (by simpa using hq)).2.2.imp (fun h => by simpa using h) id)
   have hC := hC.step hC76 (fun g hg => hO.inN g (hfs76 g hg))
   have hO := hO.grow hC76 hsq76 (os_nodup hvq76) hvq76.fpl
   refine pl_val (.int .i64 r77.1) (y_assign rfl) ?_
   refine c_nil ?_
   refine c_region ?_
   refine pl_val (.int .i64 s57.2.1) (y_move rfl) ?_
   refine pl_val (.int .i64 (w64 (s57.2.1 + 1))) (y_add rfl rfl) ?_
   refine pl_val (.int .i64 (w64 (s57.2.1 + 1))) (y_assign rfl) ?_
   refine c_nil ?_
   cases hs
   exact ⟨_, fq76, fr_ovl 27 ⟨rfl, rfl, rfl, trivial⟩, hC, hO, hvq76⟩
  ·skip
   refine c_condF (congrArg Value.bool hc66) ?_
   refine wp_exit ?_
   cases hs
   exact ⟨rfl, _, f63, fr_ovl 27 ⟨rfl, trivial⟩, hC, hO, hv63⟩
 ·skip
  exact ⟨_, pf0, fr_ovl 27 ⟨rfl, rfl, rfl, trivial⟩, hC, hO, h0⟩
 ·cases o61 with
  | nx _ => exact True.intro
  | rt r_ =>
   have hs := after_rt hs
   intro a1 w1 hK
   cases hs
   exact hK
  | br s57 =>
   have hs := after_br hs
   rintro a1 w58 ⟨σ, f65, rfl, hC, hO, hv65⟩
   refine c_seq (c_region ?_)
   refine pl_val (.int .i64 s57.1) (y_move rfl) ?_
   refine pl_val (.int .i64 s57.1) (y_assign rfl) ?_
   refine c_nil ?_
   refine wp_ret ?_
   cases hs
   exact ⟨_, f65, fr_ovl 27 ⟨rfl, trivial⟩, hC, hv65, hO.top⟩

def k_laws_heldIntS (M : Nat → Prop) (w0 : World) (r : Int) (a : Act) (w : World) : Prop :=
  ∃ (σ : Nat → Value) , a = fr 21 (ovl σ [(4, (.int .i64 r))]) ∧ Chg [] w0 w
def s_laws_heldIntS (a_ : List Int) (k : Int) : Option (Int) :=
  (forC (S := Int) (R := Int) (fun k7 s5 =>
  (idx a_ k7).bind fun x11 =>
  (bif (x11 != s5) then some (.rt (-1)) else some (.nx (w64 (s5 + 1))))) 0 (a_.length : Int) k).bind fun o9 => after o9 (fun r_ => some r_) (fun s5 =>
  some s5)
set_option maxHeartbeats 4000000 in
theorem c_laws_heldIntS {M : Nat → Prop} {w : World} {pa0 : Option Addr} {pn0 pc0 : Nat} (a_ : List Int) (k : Int) (h0 : (RT.rs (RT.int .i64)).val M w (.slice pa0 pn0 pc0) a_ ([])) (hM : ∀ g, w.heap.size ≤ g → M g) {r : Int} (hs : s_laws_heldIntS a_ k = some r) :
    Gives Try.prog 66 [(.slice pa0 pn0 pc0), (.int .i64 k)] w (fun v w' => v = (.int .i64 r) ∧ Chg [] w w') := by
 refine calls_fr Try.func66 rfl Try.ntmps66 (Nat.le_of_ble_eq_true rfl) ?_
 have hO := Own.start (N := Nw w []) hM Nw.fut
 have hC := Chg.refl [] w
 unfold s_laws_heldIntS at hs
 refine wp_mono (Q := KPost (k_laws_heldIntS M w r)) ?_ (fun e a w1 h => ?_)
 rotate_left
 ·cases e
  case ret =>
   obtain ⟨σ, rfl, hrest⟩ := h
   exact ret1x Try.results66 (res_tmp rfl) ⟨rfl, hrest⟩
  all_goals exact (h : False).elim
 refine c_seq (c_region ?_)
 refine pl_val (.int .i64 0) (y_assign rfl) ?_
 refine c_nil ?_
 refine c_seq ?_
 refine c_seq (c_region ?_)
 refine pl_val (.int .i64 0) (y_assign rfl) ?_
 refine c_nil ?_
 obtain ⟨o9, hl10, hs⟩ := bind_some hs
 refine wp_block ?_
 refine wp_forC (id := 0) (a_.length : Int) (I := fun k7 s5 a w6 => ∃ (σ : Nat → Value), a = fr 21 (ovl σ [(0, (.slice pa0 pn0 pc0)), (1, (.int .i64 s5)), (5, (.int .i64 k7))]) ∧ Chg [] w w6 ∧ Own (Nw w []) M w6 ([]) ∧ (RT.rs (RT.int .i64)).val M w6 (.slice pa0 pn0 pc0) a_ ([])) (J := fun s5 a w6 => ∃ (σ : Nat → Value), a = fr 21 (ovl σ [(1, (.int .i64 s5))]) ∧ Chg [] w w6 ∧ Own (Nw w []) M w6 ([]) ∧ (RT.rs (RT.int .i64)).val M w6 (.slice pa0 pn0 pc0) a_ ([])) (K := (k_laws_heldIntS M w)) ?_ ?_ 0 k o9 _ _ ?_ hl10 ?_
 ·rintro k7 s5 a w6 ⟨σ, rfl, hC, hO, h0⟩ hlt
  refine c_seq ?_
  refine c_seq (c_region ?_)
  refine pl_val (.int .i64 k7) (y_move rfl) ?_
  refine pl_val (.slice pa0 pn0 pc0) (y_move rfl) ?_
  refine pl_val (.int .i64 (a_.length : Int)) (y_len' Sl25 (rs_len h0) rfl) ?_
  refine pl_val (.bool (decide (k7 < (a_.length : Int)))) (y_lss rfl rfl) ?_
  refine c_nil ?_
  refine c_condF (congrArg Value.bool (decide_eq_false hlt)) ?_
  refine wp_exit ?_
  exact ⟨rfl, _, fr_ovl 21 ⟨rfl, trivial⟩, hC, hO, h0⟩
 ·rintro k7 s5 o9 a w6 ⟨σ, rfl, hC, hO, h0⟩ hlt hw hs
  refine c_seq ?_
  refine c_seq (c_region ?_)
  refine pl_val (.int .i64 k7) (y_move rfl) ?_
  refine pl_val (.slice pa0 pn0 pc0) (y_move rfl) ?_
  refine pl_val (.int .i64 (a_.length : Int)) (y_len' Sl25 (rs_len h0) rfl) ?_
  refine pl_val (.bool (decide (k7 < (a_.length : Int)))) (y_lss rfl rfl) ?_
  refine c_nil ?_
  refine c_condT (congrArg Value.bool (decide_eq_true hlt)) ?_
  refine wp_skip ?_
  refine c_seq ?_
  refine wp_block ?_
  refine c_seq ?_
  refine c_seq (c_region ?_)
  refine pl_val (.slice pa0 pn0 pc0) (y_move rfl) ?_
  refine pl_val (.int .i64 k7) (y_move rfl) ?_
  obtain ⟨x11, hx11, hs⟩ := bind_some hs
  obtain ⟨b12, o12, hp12, ha12⟩ := rs_idx Sl25 Sz3 h0 hx11
  refine pl_val (.pointer (some ⟨b12, o12, none⟩)) (hp12 _ _ _ _ _ _ _ _ _ rfl rfl) ?_
  refine pl_val (.int .i64 x11) (y_load rfl ((at_load_int Ag3 Sz3 ha12) _ (Chg.refl _ _))) ?_
  refine pl_val (.int .i64 s5) (y_move rfl) ?_
  refine pl_val (.bool (x11 != s5)) (y_neq rfl rfl) ?_
  refine c_nil ?_
  rcases bif_some hs with ⟨hc13, hs⟩ | ⟨hc13, hs⟩
  ·skip
   refine c_condT (congrArg Value.bool hc13) ?_
   refine c_seq (c_region ?_)
   refine pl_val (.int .i64 (-1)) (y_assign rfl) ?_
   refine c_nil ?_
   refine wp_ret ?_
   cases hs
   exact ⟨_, fr_ovl 21 ⟨rfl, trivial⟩, hC⟩
  ·skip
   refine c_condF (congrArg Value.bool hc13) ?_
   refine wp_skip ?_
   refine c_region ?_
   refine pl_val (.int .i64 s5) (y_move rfl) ?_
   refine pl_val (.int .i64 (w64 (s5 + 1))) (y_add rfl rfl) ?_
   refine pl_val (.int .i64 (w64 (s5 + 1))) (y_assign rfl) ?_
   refine c_nil ?_
   refine c_region ?_
   refine pl_val (.int .i64 k7) (y_move rfl) ?_
   refine pl_val (.int .i64 (w64 (k7 + 1))) (y_add rfl rfl) ?_
   refine pl_val (.int .i64 (w64 (k7 + 1))) (y_assign rfl) ?_
   refine c_nil ?_
   cases hs
   exact ⟨_, fr_ovl 21 ⟨rfl, rfl, congrArg (Value.int .i64) hw, trivial⟩, hC, hO, h0⟩
 ·skip
  exact ⟨_, fr_ovl 21 ⟨rfl, rfl, rfl, trivial⟩, hC, hO, h0⟩
 ·cases o9 with
  | nx _ => exact True.intro
  | rt r_ =>
   have hs := after_rt hs
   intro a1 w1 hK
   cases hs
   exact hK
  | br s5 =>
   have hs := after_br hs
   rintro a1 w6 ⟨σ, rfl, hC, hO, h0⟩
   refine c_seq (c_region ?_)
   refine pl_val (.int .i64 s5) (y_move rfl) ?_
   refine pl_val (.int .i64 s5) (y_assign rfl) ?_
   refine c_nil ?_
   refine wp_ret ?_
   cases hs
   exact ⟨_, fr_ovl 21 ⟨rfl, trivial⟩, hC⟩

theorem Bd66 : Bodied Try.prog 66 := bodied Try.func66 (by kernel_rfl) rfl

def k_laws_heldIntSS (M : Nat → Prop) (w0 : World) (r : Int) (a : Act) (w : World) : Prop :=
  ∃ (σ : Nat → Value) , a = fr 21 (ovl σ [(4, (.int .i64 r))]) ∧ Chg [] w0 w
def s_laws_heldIntSS (a_ : List (List Int)) (k : Int) : Option (Int) :=
  (forC (S := Int) (R := Int) (fun k11 s9 =>
  (idx a_ k11).bind fun x15 =>
  (s_laws_heldIntS x15 s9).bind fun r20 =>
  (bif (decide (r20 < 0)) then some (.rt (-1)) else some (.nx r20))) 0 (a_.length : Int) k).bind fun o13 => after o13 (fun r_ => some r_) (fun s9 =>
  some s9)
set_option maxHeartbeats 4000000 in
theorem c_laws_heldIntSS {M : Nat → Prop} {w : World} {pa0 : Option Addr} {pn0 pc0 : Nat} (a_ : List (List Int)) (k : Int) (h0 : (RT.rs (RT.rs (RT.int .i64))).val M w (.slice pa0 pn0 pc0) a_ ([])) (hM : ∀ g, w.heap.size ≤ g → M g) {r : Int} (hs : s_laws_heldIntSS a_ k = some r) :
    Gives Try.prog 50 [(.slice pa0 pn0 pc0), (.int .i64 k)] w (fun v w' => v = (.int .i64 r) ∧ Chg [] w w') := by
 refine calls_fr Try.func50 rfl Try.ntmps50 (Nat.le_of_ble_eq_true rfl) ?_
 have hO := Own.start (N := Nw w []) hM Nw.fut
 have hC := Chg.refl [] w
 unfold s_laws_heldIntSS at hs
 refine wp_mono (Q := KPost (k_laws_heldIntSS M w r)) ?_ (fun e a w1 h => ?_)
 rotate_left
 ·cases e
  case ret =>
   obtain ⟨σ, rfl, hrest⟩ := h
   exact ret1x Try.results50 (res_tmp rfl) ⟨rfl, hrest⟩
  all_goals exact (h : False).elim
 refine c_seq (c_region ?_)
 refine pl_val (.int .i64 0) (y_assign rfl) ?_
 refine c_nil ?_
 refine c_seq ?_
 refine c_seq (c_region ?_)
 refine pl_val (.int .i64 0) (y_assign rfl) ?_
 refine c_nil ?_
 obtain ⟨o13, hl14, hs⟩ := bind_some hs
 refine wp_block ?_
 refine wp_forC (id := 0) (a_.length : Int) (I := fun k11 s9 a w10 => ∃ (σ : Nat → Value), a = fr 21 (ovl σ [(0, (.slice pa0 pn0 pc0)), (1, (.int .i64 s9)), (5, (.int .i64 k11))]) ∧ Chg [] w w10 ∧ Own (Nw w []) M w10 ([]) ∧ (RT.rs (RT.rs (RT.int .i64))).val M w10 (.slice pa0 pn0 pc0) a_ ([])) (J := fun s9 a w10 => ∃ (σ : Nat → Value), a = fr 21 (ovl σ [(1, (.int .i64 s9))]) ∧ Chg [] w w10 ∧ Own (Nw w []) M w10 ([]) ∧ (RT.rs (RT.rs (RT.int .i64))).val M w10 (.slice pa0 pn0 pc0) a_ ([])) (K := (k_laws_heldIntSS M w)) ?_ ?_ 0 k o13 _ _ ?_ hl14 ?_
 ·rintro k11 s9 a w10 ⟨σ, rfl, hC, hO, h0⟩ hlt
  refine c_seq ?_
  refine c_seq (c_region ?_)
  refine pl_val (.int .i64 k11) (y_move rfl) ?_
  refine pl_val (.slice pa0 pn0 pc0) (y_move rfl) ?_
  refine pl_val (.int .i64 (a_.length : Int)) (y_len' Sl49 (rs_len h0) rfl) ?_
  refine pl_val (.bool (decide (k11 < (a_.length : Int)))) (y_lss rfl rfl) ?_
  refine c_nil ?_
  refine c_condF (congrArg Value.bool (decide_eq_false hlt)) ?_
  refine wp_exit ?_
  exact ⟨rfl, _, fr_ovl 21 ⟨rfl, trivial⟩, hC, hO, h0⟩
 ·rintro k11 s9 o13 a w10 ⟨σ, rfl, hC, hO, h0⟩ hlt hw hs
  refine c_seq ?_
  refine c_seq (c_region ?_)
  refine pl_val (.int .i64 k11) (y_move rfl) ?_
  refine pl_val (.slice pa0 pn0 pc0) (y_move rfl) ?_
  refine pl_val (.int .i64 (a_.length : Int)) (y_len' Sl49 (rs_len h0) rfl) ?_
  refine pl_val (.bool (decide (k11 < (a_.length : Int)))) (y_lss rfl rfl) ?_
  refine c_nil ?_
  refine c_condT (congrArg Value.bool (decide_eq_true hlt)) ?_
  refine wp_skip ?_
  refine c_seq ?_
  refine wp_block ?_
  refine c_seq (c_region ?_)
  refine pl_val (.slice pa0 pn0 pc0) (y_move rfl) ?_
  refine pl_val (.int .i64 k11) (y_move rfl) ?_
  obtain ⟨x15, hx15, hs⟩ := bind_some hs
  obtain ⟨b16, o16, hp16, ha16⟩ := rs_idx Sl49 Sz25 h0 hx15
  refine pl_val (.pointer (some ⟨b16, o16, none⟩)) (hp16 _ _ _ _ _ _ _ _ _ rfl rfl) ?_
  obtain ⟨v17, hl17, hv17⟩ := at_load Ag25 Sz25 (fun _ => rfl) ha16
  obtain ⟨a17, n17, c17, rfl⟩ := rs_sl hv17
  refine pl_val (.slice a17 n17 c17) (y_load rfl (hl17 _ (Chg.refl _ _))) ?_
  refine pl_val (.int .i64 s9) (y_move rfl) ?_
  obtain ⟨r20, hr20, hs⟩ := bind_some hs
  refine pl_call Bd66 rfl (c_laws_heldIntS (M := M) x15 s9 hv17 hO.fut hr20) ?_
  rintro _ w19 ⟨rfl, hC19⟩
  have h0 := h0.ext hC19
  have hv17 := hv17.ext hC19
  have hC := hC.ext hC19
  have hO := hO.ext hC19
  refine pl_val (.int .i64 r20) (y_assign rfl) ?_
  refine c_nil ?_
  refine c_seq (c_region ?_)
  refine pl_val (.int .i64 r20) (y_move rfl) ?_
  refine pl_val (.bool (decide (r20 < 0))) (y_lss rfl rfl) ?_
  refine c_nil ?_
  rcases bif_some hs with ⟨hc21, hs⟩ | ⟨hc21, hs⟩
  ·skip
   refine c_condT (congrArg Value.bool hc21) ?_
   refine c_seq (c_region ?_)
   refine pl_val (.int .i64 (-1)) (y_assign rfl) ?_
   refine c_nil ?_
   refine wp_ret ?_
   cases hs
   exact ⟨_, fr_ovl 21 ⟨rfl, trivial⟩, hC⟩
  ·skip
   refine c_condF (congrArg Value.bool hc21) ?_
   refine wp_skip ?_
   refine c_region ?_
   refine pl_val (.int .i64 k11) (y_move rfl) ?_
   refine pl_val (.int .i64 (w64 (k11 + 1))) (y_add rfl rfl) ?_
   refine pl_val (.int .i64 (w64 (k11 + 1))) (y_assign rfl) ?_
   refine c_nil ?_
   cases hs
   exact ⟨_, fr_ovl 21 ⟨rfl, rfl, congrArg (Value.int .i64) hw, trivial⟩, hC, hO, h0⟩
 ·skip
  exact ⟨_, fr_ovl 21 ⟨rfl, rfl, rfl, trivial⟩, hC, hO, h0⟩
 ·cases o13 with
  | nx _ => exact True.intro
  | rt r_ =>
   have hs := after_rt hs
   intro a1 w1 hK
   cases hs
   exact hK
  | br s9 =>
   have hs := after_br hs
   rintro a1 w10 ⟨σ, rfl, hC, hO, h0⟩
   refine c_seq (c_region ?_)
   refine pl_val (.int .i64 s9) (y_move rfl) ?_
   refine pl_val (.int .i64 s9) (y_assign rfl) ?_
   refine c_nil ?_
   refine wp_ret ?_
   cases hs
   exact ⟨_, fr_ovl 21 ⟨rfl, trivial⟩, hC⟩

theorem Bd50 : Bodied Try.prog 50 := bodied Try.func50 (by kernel_rfl) rfl

end Go.Proofs
