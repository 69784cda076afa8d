/- Lemmas on the model and on plain lists: a part of the proof. No conditions. -/
import Derived.Test.YtkbacbikbndakaaGreatGCallm
set_option linter.unusedVariables false
namespace Go.G
open Go.RowKit

def RT.Nf {α : Type} (r : RT α) : Prop := ∀ {M w cs x fp}, r.rel M w cs x fp → fp = []
theorem Nf.int {k : IntKind} : (RT.int k).Nf := fun h => h.2
theorem Nf.bool : RT.bool.Nf := fun h => h.2
theorem Nf.rs {α : Type} {r : RT α} : (RT.rs r).Nf := fun ⟨_, _, _, _, h, _⟩ => h
theorem relL.nf {α : Type} {r : RT α} {M : Nat → Prop} {w : World} (hN : r.Nf) : ∀ {css : List (List Value)} {xs : List α} {fps : List (List Nat)}, relL r M w css xs fps → fps.flatten = []
  | [], [], [], _ => rfl
  | [], [], _ :: _, h => h.elim
  | [], _ :: _, _, h => by cases h
  | _ :: _, [], _, h => by cases h
  | _ :: _, _ :: _, [], h => by cases h
  | c :: css, x :: xs, f :: fps, h => by
    have h' : r.rel M w c x f ∧ relL r M w css xs fps := h
    rw [List.flatten_cons, hN h'.1, relL.nf hN h'.2]; rfl
theorem relL.take {α : Type} {r : RT α} {M : Nat → Prop} {w : World} : ∀ {css : List (List Value)} {xs : List α} {fps : List (List Nat)} (k : Nat), relL r M w css xs fps → relL r M w (css.take k) (xs.take k) (fps.take k) ∧ (css.take k).flatten.length = (min k xs.length) * r.sz ∧ (css.take k).flatten = css.flatten.take ((min k xs.length) * r.sz)
  | [], [], [], k, _ => by simp; trivial
  | [], [], _ :: _, _, h => h.elim
  | [], _ :: _, _, _, h => by cases h
  | _ :: _, [], _, _, h => by cases h
  | _ :: _, _ :: _, [], _, h => by cases h
  | c :: css, x :: xs, f :: fps, 0, h => by simp; trivial
  | c :: css, x :: xs, f :: fps, k + 1, h => by
    have h' : r.rel M w c x f ∧ relL r M w css xs fps := h
    obtain ⟨a, b, d⟩ := relL.take k h'.2
    have hl := r.len h'.1
    refine ⟨⟨h'.1, a⟩, ?_, ?_⟩
    · simp only [List.take_succ_cons, List.flatten_cons, List.length_append, b, hl, List.length_cons]
      rw [Nat.add_min_add_right, Nat.add_mul, Nat.one_mul]; omega
    · simp only [List.take_succ_cons, List.flatten_cons, d, List.length_cons]
      rw [Nat.add_min_add_right, Nat.add_mul, Nat.one_mul, List.take_append, hl, List.take_of_length_le (l := c) (by omega), show min k xs.length * r.sz + r.sz - r.sz = min k xs.length * r.sz by omega]
section
variable {P : Program} {α β : Type} {r r' : RT α} {M M' : Nat → Prop} {w w' : World} {v : Value} {a : Option Addr} {n c k : Nat} {xs ys zs : List α} {fp fp' f : List Nat} {t e : TypeId} {g : Nat} {p : Addr} {x : α}
theorem zbK {n' c' : Nat} : (Value.slice a n c).ownBlock = (Value.slice a n' c').ownBlock := by cases a <;> rfl
theorem wF (hN : r.Nf) (h : (RT.os e r).val M w v xs fp) : fp = v.ownBlock.toList := by
  obtain ⟨css, fps, hown, hl, rfl, hnd⟩ := ZQ h
  rw [hl.nf hN, List.append_nil]
theorem os_take (hN : r.Nf) (h : (RT.os e r).val M w (.slice a n c) xs fp) (hk : k ≤ xs.length) : (RT.os e r).val M w (.slice a k c) (xs.take k) fp := by
  have hfp := wF hN h
  obtain ⟨css, fps, hown, hl, hf, hnd⟩ := ZQ h
  obtain ⟨h1, h2, h3⟩ := relL.take k hl
  have hlen : (xs.take k).length = k := by simp; omega
  have hmin : min k xs.length = k := by omega
  rw [hmin] at h2 h3
  refine ⟨_, rfl, .slice a k c, css.take k, fps.take k, rfl, ?_, h1, ?_, hnd⟩
  · rw [hlen]
    refine ⟨h2, ?_⟩
    rcases hown.2 with ⟨hv, h0⟩ | ⟨g, cap, cur, hv, hb, hg, hnc, hcm, hcs, htake⟩
    · have : a = none ∧ n = 0 ∧ c = 0 := by simpa using hv
      obtain ⟨rfl, rfl, rfl⟩ := this
      exact .inl ⟨by rw [show k = 0 by omega], by omega⟩
    · have : a = some ⟨g, 0, none⟩ ∧ n = xs.length ∧ c = cap := by simpa using hv
      obtain ⟨rfl, rfl, rfl⟩ := this
      refine .inr ⟨g, c, cur, rfl, hb, hg, by omega, hcm, hcs, ?_⟩
      rw [h3, ← htake, List.take_take]
      congr 1
      have : k * r.sz ≤ xs.length * r.sz := Nat.mul_le_mul_right _ hk
      omega
  · rw [h1.nf hN, List.append_nil, hfp]; exact congrArg _ zbK
theorem vW (h : (RT.os e r).val M w (.slice a n c) xs fp) : n = xs.length := by
  obtain ⟨css, fps, hown, _⟩ := ZQ h
  rcases hown.2 with ⟨hv, h0⟩ | ⟨g, cap, cur, hv, _⟩
  · have : a = none ∧ n = 0 ∧ c = 0 := by simpa using hv
    rw [this.2.1, h0]
  · have : a = some ⟨g, 0, none⟩ ∧ n = xs.length ∧ c = cap := by simpa using hv
    exact this.2.1
theorem WC (hN : r.Nf) (hn : n = xs.length) (hf : fp = (Value.slice a n c).ownBlock.toList) {n' : Nat} (h : (RT.os e r).val M w (.slice a n' c) (xs ++ ys) fp') : fp' = fp ∧ (RT.os e r).val M w (.slice a n c) xs fp := by
  have h1 := os_take hN (k := xs.length) h (by simp)
  rw [List.take_left, ← hn] at h1
  have : fp' = fp := by rw [wF hN h1, hf]
  exact ⟨this, this ▸ h1⟩
theorem os_pre (hN : r.Nf) {hi : Int} (ht : P.underlying t = some (.slice e)) (hs : SzT P e r.sz) (h : (RT.os e r).val M w (.slice a n c) xs fp) (hy : slc xs 0 hi = some ys) :
    ∃ n', (RT.os e r).val M w (.slice a n' c) ys fp ∧ (∀ w, (Instr.sliceAt t (.slice a n c) none (some (.int .i64 hi)) none).run P w = .ok (.slice a n' c) w) := by
  unfold slc at hy
  split at hy
  case isFalse => cases hy
  rename_i hb
  obtain ⟨h0, h1, h2⟩ := hb
  obtain ⟨u, rfl⟩ : ∃ u : Nat, hi = (u : Int) := ⟨hi.toNat, by omega⟩
  obtain rfl := Option.some.inj hy
  have hn := vW h
  refine ⟨u, ?_, ?_⟩
  · have := os_take hN (k := u) h (by omega)
    simpa using this
  · obtain ⟨i, hi, hisz⟩ := hs
    intro w'
    have huc : u ≤ c := by
      obtain ⟨css, fps, hown, _⟩ := ZQ h
      rcases hown.2 with ⟨hv, h0⟩ | ⟨g, cap, cur, hv, _, _, hnc, _⟩
      · omega
      · have : a = some ⟨g, 0, none⟩ ∧ n = xs.length ∧ c = cap := by simpa using hv
        omega
    simp only [Instr.sliceAt, Sem.run_bind, run_underlying ht, Result.andThen_ok, Instr.slice, Instr.sliceBounds, Instr.sliceBound, asIntOf, Sem.run_pure]
    have ha : (if c = 0 then a else a.map (·.add 0)) = a := by
      split
      · rfl
      · cases a with
        | none => rfl
        | some q => simp [Addr.add]
    simp [sizeOf, typeInfo, hi, hisz, huc, Result.andThen]
    cases a with
    | none => simp
    | some q => obtain ⟨b, o, s⟩ := q; cases s <;> simp [Addr.add]
theorem zca {z : List Value} {s : Value} (hN : r.Nf) (hT : RowT P t e r.sz z) (hy : app xs ys = some zs) (h : (RT.os e r).val M w (.slice a n c) xs fp) (h' : (RT.rs r).val M w s ys []) (hown : ∀ g ∈ fp, M g) (hpos : 0 < ys.length) (hcap : n + ys.length ≤ c) :
    ∃ w', (∀ ty, (Builtin.append_ #[t, t] ty #[.slice a n c, s]).run P w = .ok (.slice a (n + ys.length) c) w') ∧ Chg (Value.slice a n c).ownBlock.toList w w' ∧ (RT.os e r).val M w' (.slice a (n + ys.length) c) zs fp := by
  obtain ⟨hlen, rfl⟩ := YK hy
  obtain ⟨i, zv, hi, hz, hzc, hsz, hby⟩ := hT.inf
  obtain ⟨a2, cap2, css, rfl, _, _, hl, hr⟩ := Xx h'
  have hfp := wF hN h
  have hob : ∀ g ∈ (Value.slice a n c).ownBlock, M g := fun g hg => hown g (by rw [hfp]; simpa using hg)
  obtain ⟨g, off, rfl, hg, hlt, hrow⟩ := hr hpos
  obtain ⟨v', w', fp', h1, h2, h3, h4⟩ := xS (M' := M) hT.und hi hz hsz hby (by rw [hzc]; simpa using hT.len) hT.pos h hrow hl hlen hob (by simp) (by simp) (fun _ h => .inl h) cap2
  have hn := vW h
  obtain ⟨css0, fps0, hrw, _⟩ := ZQ h
  rcases hrw.2 with ⟨hv, h0⟩ | ⟨g0, cap, cur, hv, hb, hg0, hnc, hcm, hcs, htake⟩
  · have : a = none ∧ n = 0 ∧ c = 0 := by simpa using hv
    omega
  · have hv' : a = some ⟨g0, 0, none⟩ ∧ n = xs.length ∧ c = cap := by simpa using hv
    obtain ⟨rfl, _, rfl⟩ := hv'
    have hnews : ∀ j u, css.flatten[j]? = some u → w.cell? ((⟨g, off, none⟩ : Addr).add j) = some u := fun j u hj => by
      rw [Addr.add_lit]; exact hrow j u hj
    have hfl : css.flatten.length = ys.length * i.size := by rw [hsz]; exact hl.flat
    have hfit : n * i.size + css.flatten.length ≤ cur.size := by rw [hfl, hcs, hsz, ← Nat.add_mul]; exact Nat.mul_le_mul_right _ hcap
    have hrm := fun ty => run_append_room (P := P) w t ty e i hT.und hi g0 n c cur hg0 ⟨g, off, none⟩ ys.length cap2 css.flatten hfl hnews hl.one hcap hfit
    have e1 : v' = .slice (some ⟨g0, 0, none⟩) (n + ys.length) c := by
      have := (h1 0).symm.trans (hrm 0)
      simp only [Result.ok.injEq] at this
      exact this.1
    subst e1
    have e2 : fp' = fp := by rw [wF hN h4, hfp]; rfl
    exact ⟨w', h1, h2, e2 ▸ h4⟩
theorem zah {z : List Value} {s : Value} (hN : r.Nf) (hT : RowT P t e r.sz z) (hy : app xs ys = some zs) (h : (RT.os e r).val M w (.slice a n c) xs fp) (h' : (RT.rs r).val M w s ys []) (hown : ∀ g ∈ fp, M g) (hpos : 0 < ys.length) (hcap : c < n + ys.length) :
    ∃ a' n' c' w' fp', (∀ ty, (Builtin.append_ #[t, t] ty #[.slice a n c, s]).run P w = .ok (.slice a' n' c') w') ∧ Chg [] w w' ∧ (∀ q ∈ fp', w.heap.size ≤ q) ∧ (RT.os e r).val M w' (.slice a' n' c') zs fp' := by
  obtain ⟨hlen, rfl⟩ := YK hy
  obtain ⟨i, zv, hi, hz, hzc, hsz, hby⟩ := hT.inf
  obtain ⟨a2, cap2, css, rfl, _, _, hl, hr⟩ := Xx h'
  have hfp := wF hN h
  have hob : ∀ g ∈ (Value.slice a n c).ownBlock, M g := fun g hg => hown g (by rw [hfp]; simpa using hg)
  obtain ⟨g, off, rfl, hg, hlt, hrow⟩ := hr hpos
  obtain ⟨v', w', fp', h1, h2, h3, h4⟩ := xS (M' := M) hT.und hi hz hsz hby (by rw [hzc]; simpa using hT.len) hT.pos h hrow hl hlen hob (by simp) (by simp) (fun _ h => .inl h) cap2
  obtain ⟨a1, n1, c1, rfl⟩ := Uj h4
  have hf' := wF hN h4
  have hnews : ∀ j u, css.flatten[j]? = some u → w.cell? ((⟨g, off, none⟩ : Addr).add j) = some u := fun j u hj => by
    rw [Addr.add_lit]; exact hrow j u hj
  have hfl : css.flatten.length = ys.length * i.size := by rw [hsz]; exact hl.flat
  obtain ⟨css0, fps0, hrw, _⟩ := ZQ h
  have hbb : (xs.length + ys.length) * i.bytes ≤ 140737488355328 := by
    calc (xs.length + ys.length) * i.bytes ≤ 4294967296 * 32768 := Nat.mul_le_mul hlen hby
      _ = 140737488355328 := rfl
  rcases hrw.2 with ⟨hv, h0⟩ | ⟨g0, cap, cur, hv, hb, hg0, hnc, hcm, hcs, htake⟩
  · have hv' : a = none ∧ n = 0 ∧ c = 0 := by simpa using hv
    obtain ⟨rfl, rfl, rfl⟩ := hv'
    have hrm := fun ty => run_append_nil (P := P) w t ty e i zv hT.und hi hz ⟨g, off, none⟩ ys.length cap2 css.flatten hfl hnews hpos (by omega) (by rw [h0, Nat.zero_add] at hbb; omega)
    have := (h1 0).symm.trans (hrm 0)
    simp only [Result.ok.injEq, Value.slice.injEq] at this
    obtain ⟨⟨rfl, rfl, rfl⟩, rfl⟩ := this
    exact ⟨_, _, _, _, _, h1, (Chg.drew w).ext (Chg.alloc _ _), fun q hq => by rw [hf'] at hq; simp [Value.ownBlock] at hq; omega, h4⟩
  · have hv' : a = some ⟨g0, 0, none⟩ ∧ n = xs.length ∧ c = cap := by simpa using hv
    obtain ⟨rfl, rfl, rfl⟩ := hv'
    have holds : ∀ j u, css0.flatten[j]? = some u → w.cell? ((⟨g0, 0, none⟩ : Addr).add j) = some u := hrw.cells (g := g0) rfl
    have hrm := fun ty => run_append_grow (P := P) w t ty e i zv hT.und hi hz ⟨g0, 0, none⟩ xs.length c css0.flatten (by rw [hsz]; exact hrw.1) holds ⟨g, off, none⟩ ys.length cap2 css.flatten hfl hnews hcap (by omega) (growslice_fits (by omega) hbb)
    have := (h1 0).symm.trans (hrm 0)
    simp only [Result.ok.injEq, Value.slice.injEq] at this
    obtain ⟨⟨rfl, rfl, rfl⟩, rfl⟩ := this
    exact ⟨_, _, _, _, _, h1, (Chg.drew w).ext (Chg.alloc _ _), fun q hq => by rw [hf'] at hq; simp [Value.ownBlock] at hq; omega, h4⟩
end
def NilEq (cs : List Value) {α : Type} (xs : List α) : Prop := ∃ a n c, cs = [.slice a n c] ∧ a.isNone = xs.isEmpty
def RT.rn {α : Type} (r : RT α) : RT (List α) where
  sz := 1
  agg := false
  rel := fun M w cs xs fp => (RT.rs r).rel M w cs xs fp ∧ NilEq cs xs
  len := fun h => (RT.rs r).len h.1
  one := fun h => (RT.rs r).one h.1
  fpl := fun h => (RT.rs r).fpl h.1
  mono := fun h hc h1 h2 h3 => ⟨(RT.rs r).mono h.1 hc h1 h2 h3, h.2⟩
def RT.on {α : Type} (e : TypeId) (r : RT α) : RT (List α) where
  sz := 1
  agg := false
  rel := fun M w cs xs fp => (RT.os e r).rel M w cs xs fp ∧ NilEq cs xs
  len := fun h => (RT.os e r).len h.1
  one := fun h => (RT.os e r).one h.1
  fpl := fun h => (RT.os e r).fpl h.1
  mono := fun h hc h1 h2 h3 => ⟨(RT.os e r).mono h.1 hc h1 h2 h3, h.2⟩
section
variable {α β : Type} {r r' : RT α} {M M' : Nat → Prop} {w w' : World} {v : Value} {a : Option Addr} {n c k : Nat} {xs ys zs : List α} {fp fp' f : List Nat} {t e e' : TypeId} {g : Nat} {p : Addr} {x : α} {cs : List Value}
theorem vx (h : (RT.rn r).val M w v xs fp) : ∃ a n c, v = .slice a n c ∧ (RT.rs r).val M w (.slice a n c) xs fp ∧ a.isNone = xs.isEmpty := by
  obtain ⟨cs, rfl, h1, a, n, c, rfl, h2⟩ := h
  exact ⟨a, n, c, rfl, ⟨_, rfl, h1⟩, h2⟩
theorem zbd (h : (RT.os e r).val M w (.slice a n c) xs fp) (hz : a.isNone = xs.isEmpty) : (RT.on e r).rel M w [.slice a n c] xs fp := ⟨ZJ h, a, n, c, rfl, hz⟩
theorem on_nil : (RT.on e r).rel M w [.slice none 0 0] [] [] := ⟨ZJ xJ, none, 0, 0, rfl, rfl⟩
theorem Frz.on (hF : Frz r r') : Frz (RT.on e r) (RT.rs r') := ⟨rfl, rfl, fun h hM hd => (Frz.os (e := e) hF).2.2 h.1 hM hd⟩
theorem Frz.onn (hF : Frz r r') : Frz (RT.on e r) (RT.rn r') := ⟨rfl, rfl, fun h hM hd => ⟨(Frz.os (e := e) hF).2.2 h.1 hM hd, h.2⟩⟩
theorem Free.on (h : r.Free) : (RT.on e r).Free := fun hh => ⟨Free.os h hh.1, hh.2⟩
theorem relL.weak {r2 : RT α} (hw : ∀ {cs x f}, r.rel M w cs x f → r2.rel M w cs x f) : ∀ {css : List (List Value)} {xs : List α} {fps : List (List Nat)}, relL r M w css xs fps → relL r2 M w css xs fps
  | [], [], [], _ => trivial
  | [], [], _ :: _, h => h.elim
  | [], _ :: _, _, h => by cases h
  | _ :: _, [], _, h => by cases h
  | _ :: _, _ :: _, [], h => by cases h
  | c :: css, x :: xs, f :: fps, h => ⟨hw h.1, relL.weak hw h.2⟩
theorem on_weak {rows : List (List α)} (h : (RT.os e' (RT.on e r)).val M w v rows fp) : (RT.os e' (RT.os e r)).val M w v rows fp := by
  obtain ⟨css, fps, hown, hl, hf, hnd⟩ := ZQ h
  exact ⟨_, rfl, v, css, fps, rfl, hown, hl.weak (r2 := RT.os e r) (fun (h : (RT.on e r).rel M w _ _ _) => h.1), hf, hnd⟩
end
end Go.G
