/- Lemmas on the model and on plain lists: a part of the proof. No conditions. -/
import Derived.Test.YtlfpejnpjpmejaaGreatDoorGEnv
import Derived.Lib.ReflectliteSwap
set_option linter.unusedVariables false
namespace Go.G
open Go.RowKit Go.Lib

section
variable {α : Type} {r : RT α} {M : Nat → Prop} {w : World}
theorem relL.get {css : List (List Value)} {xs : List α} {fps : List (List Nat)} {i : Nat} {x : α} (h : relL r M w css xs fps) (hx : xs[i]? = some x) : ∃ c f, css[i]? = some c ∧ fps[i]? = some f ∧ r.rel M w c x f := by
  obtain ⟨c1, c, c2, f1, f, f2, rfl, rfl, h1, h2, _, h4⟩ := h.at hx;exact ⟨c, f, by rw [List.getElem?_append_right (by omega)]; simp [h1], by rw [List.getElem?_append_right (by omega)]; simp [h2], h4⟩
theorem relL.set : ∀ {css : List (List Value)} {xs : List α} {fps : List (List Nat)} {i : Nat} {c : List Value} {x : α} {f : List Nat}, relL r M w css xs fps → r.rel M w c x f → relL r M w (css.set i c) (xs.set i x) (fps.set i f)
  | [], [], [], _, _, _, _, _, _ => trivial
  | [], [], _ :: _, _, _, _, _, h, _ => h.elim
  | [], _ :: _, _, _, _, _, _, h, _ => h.elim
  | _ :: _, [], _, _, _, _, _, h, _ => h.elim
  | _ :: _, _ :: _, [], _, _, _, _, h, _ => h.elim
  | _ :: _, _ :: _, _ :: _, 0, _, _, _, h, hr => ⟨hr, h.2⟩
  | _ :: _, _ :: _, _ :: _, _ + 1, _, _, _, h, hr => ⟨h.1, relL.set h.2 hr⟩
theorem relL.mem {css : List (List Value)} {xs : List α} {fps : List (List Nat)} (h : relL r M w css xs fps) : ∀ c ∈ css, c.length = r.sz := by
  induction css generalizing xs fps with
  | nil => intro c hc; cases hc
  | cons d css ih =>
    cases xs with
    | nil => cases fps <;> exact h.elim
    | cons x xs => cases fps with
      | nil => exact h.elim
      | cons f fps =>
        intro c hc;rcases List.mem_cons.1 hc with rfl | hc
        · exact r.len h.1
        · exact ih h.2 c hc
end
theorem Ul {α : Type} : ∀ {l : List (List α)} {i : Nat} {u : α}, (∀ c ∈ l, c.length = 1) → l[i]? = some [u] → l.flatten[i]? = some u
  | [], _, _, _, h => by simp at h
  | c :: l, 0, u, h1, h => by simp at h; subst h; rfl
  | c :: l, i + 1, u, h1, h => by
    obtain ⟨a, rfl⟩ := List.length_eq_one_iff.1 (h1 c (by simp));have := Ul (l := l) (i := i) (u := u) (fun c hc => h1 c (by simp [hc])) (by simpa using h);simpa using this
theorem UF {α : Type} : ∀ {l : List (List α)} {i : Nat} {u : α}, (∀ c ∈ l, c.length = 1) → (l.set i [u]).flatten = l.flatten.set i u
  | [], _, _, _ => by simp
  | c :: l, 0, u, h1 => by
    obtain ⟨a, rfl⟩ := List.length_eq_one_iff.1 (h1 c (by simp));rfl
  | c :: l, i + 1, u, h1 => by
    obtain ⟨a, rfl⟩ := List.length_eq_one_iff.1 (h1 c (by simp));have := UF (l := l) (i := i) (u := u) (fun c hc => h1 c (by simp [hc]));simp [this]
theorem Um {α : Type} {l : List α} {i j : Nat} {a b : α} (hi : l[i]? = some a) (hj : l[j]? = some b) : ((l.set i b).set j a).Perm l := by
  obtain ⟨h1, rfl⟩ := List.getElem?_eq_some_iff.1 hi;obtain ⟨h2, rfl⟩ := List.getElem?_eq_some_iff.1 hj;exact List.set_set_perm h1 h2

theorem os_swap {α : Type} {r : RT α} {M : Nat → Prop} {w : World} {e : TypeId} {a : Option Addr} {n c i j : Nat} {xs : List α} {x y : α} {fp : List Nat} (hsz : r.sz = 1) (h : (RT.os e r).val M w (.slice a n c) xs fp) (hi : xs[i]? = some x) (hj : xs[j]? = some y) (hMf : ∀ g ∈ fp, M g) :
    ∃ g u v, a = some ⟨g, 0, none⟩ ∧ n = xs.length ∧ g ∈ fp ∧ w.cell? ⟨g, 0 + i, none⟩ = some u ∧ w.cell? ⟨g, 0 + j, none⟩ = some v ∧ u.oneCell' = true ∧ v.oneCell' = true ∧ (∀ k, w.frozen? ⟨g, k, none⟩ = false) ∧
      Chg [g] w ((w.setCell ⟨g, 0 + i, none⟩ v).setCell ⟨g, 0 + j, none⟩ u) ∧ ∃ fp', fp'.Perm fp ∧ (RT.os e r).val M ((w.setCell ⟨g, 0 + i, none⟩ v).setCell ⟨g, 0 + j, none⟩ u) (.slice a n c) ((xs.set i y).set j x) fp' := by
  obtain ⟨css, fps, hrow, hl, rfl, hnd⟩ := Yx h;have hlt : i < xs.length := (List.getElem?_eq_some_iff.1 hi).1;have hltj : j < xs.length := (List.getElem?_eq_some_iff.1 hj).1;rcases hrow.2 with ⟨_, h0⟩ | ⟨g, cap, cur, hv, hb, hg, hnc, hcm, hcs, htake⟩
  · omega
  have hsl : a = some ⟨g, 0, none⟩ ∧ n = xs.length ∧ c = cap := by simpa using hv
  obtain ⟨rfl, rfl, rfl⟩ := hsl;obtain ⟨ci, fi, e1, e2, hri⟩ := hl.get hi;obtain ⟨cj, fj, e3, e4, hrj⟩ := hl.get hj;have hone : ∀ c ∈ css, c.length = 1 := fun c hc => (hl.mem c hc).trans hsz
  obtain ⟨u, rfl⟩ := List.length_eq_one_iff.1 ((r.len hri).trans hsz);obtain ⟨v, rfl⟩ := List.length_eq_one_iff.1 ((r.len hrj).trans hsz);have hu : u.oneCell' = true := r.one hri u (by simp);have hvv : v.oneCell' = true := r.one hrj v (by simp);rw [hsz, Nat.mul_one] at htake hcs;have hcur : ∀ k q, css.flatten[k]? = some q → cur[k]? = some q := fun k q hq => by
    rw [← htake, List.getElem?_take] at hq;split at hq
    · simpa using hq
    · cases hq
  have hci := hcur i u (Ul hone e1);have hcj := hcur j v (Ul hone e3);have hgn : g ∉ fps.flatten := by
    intro hq;simp only [Value.ownBlock, Option.toList, List.cons_append, List.nil_append, List.nodup_cons] at hnd;exact hnd.1 hq
  have cellAt : ∀ k q, cur[k]? = some q → w.cell? ⟨g, 0 + k, none⟩ = some q := fun k q hk => by
    rw [Nat.zero_add, cell_of_row w g k cur e (0, 0) hg]; exact hk
  have hch : Chg [g] w ((w.setCell ⟨g, 0 + i, none⟩ v).setCell ⟨g, 0 + j, none⟩ u) := ⟨rfl, rfl, rfl, by simp, fun k _ hk => by
    rw [heap_setCell_other _ _ _ _ (fun e => hk (by simp [e])), heap_setCell_other _ _ _ _ (fun e => hk (by simp [e]))]⟩
  have hg2 := heap_setCell_same _ g (0 + j) _ e u (heap_setCell_same w g (0 + i) cur e v hg);have hl2 : relL r M ((w.setCell ⟨g, 0 + i, none⟩ v).setCell ⟨g, 0 + j, none⟩ u) ((css.set i [v]).set j [u]) ((xs.set i y).set j x) ((fps.set i fj).set j fi) := by
    have hpf : ∀ q ∈ ((fps.set i fj).set j fi).flatten, q ∈ fps.flatten := fun q hq => ((Um e2 e4).flatten.mem_iff).1 hq
    exact ((hl.set hrj).set hri).mono hch (fun q hq => .inl (hMf q (by simp at hq; simp [Value.ownBlock, hq]))) (fun q hq hq' => by simp at hq; subst hq; exact hgn (hpf _ hq')) (fun _ h => .inl h)
  have hperm : ((Value.slice (some ⟨g, 0, none⟩) xs.length c).ownBlock.toList ++ ((fps.set i fj).set j fi).flatten).Perm ((Value.slice (some ⟨g, 0, none⟩) xs.length c).ownBlock.toList ++ fps.flatten) := (Um e2 e4).flatten.append_left _;refine ⟨g, u, v, rfl, rfl, by simp [Value.ownBlock], cellAt i u hci, cellAt j v hcj, hu, hvv, fun k => frozen_of_row w g k cur e hg, hch, _, hperm, [_], rfl, _, _, _, rfl, ?_, hl2, rfl, hperm.nodup_iff.2 hnd⟩;have hf1 : ((css.set i [v]).set j [u]).flatten = (css.flatten.set i v).set j u := by
    rw [UF (fun c hc => ?_), UF hone];rcases List.mem_or_eq_of_mem_set hc with h | rfl
    · exact hone c h
    · rfl
  have hfl : ((xs.set i y).set j x).length = xs.length := by simp
  rw [hfl];refine ⟨?_, .inr ⟨g, c, _, rfl, Nat.zero_le _, hg2, hnc, hcm, by simp [hcs, hsz], ?_⟩⟩
  · rw [hf1, List.length_set, List.length_set]; exact hrow.1
  · rw [hf1, hsz, Nat.mul_one, ← htake];simp [List.take_set]

def zcu {α : Type} (r : RT α) (e : TypeId) (M : Nat → Prop) (a : Option Addr) (n c : Nat) (pf : List Nat) (gO gR : Nat) (tO tR : TypeId) (fv : Value) (w : World) (d : List α) : Prop :=
  (∃ fp, (RT.os e r).val M w (.slice a n c) d fp ∧ fp.Perm pf) ∧ BoxV w gO tO [fv] ∧ BoxV w gR tR [.slice a n c] ∧ (∀ g, w.heap.size ≤ g → M g)

theorem sort_env {P : Program} {α : Type} {r : RT α} {e : TypeId} {ie : TypeInfo} {M : Nat → Prop} {a : Option Addr} {n c : Nat} {pf : List Nat} {gO gR : Nat} {tO tR : TypeId} {fv : Value} {ls : α → α → Option Bool} {g : Nat} {lb : Array Value} {f1 f2 f9 : Nat} {ke : Nat} {w : World} {d : List α}
    (hsz : r.sz = 1) (hie : P.info? e = some ie) (hie1 : ie.size = 1) (hagg : AggT P e false) (hp : ie.hasPointers = true) (h24 : (ie.bytes == 8) = false) (hke : (ke == 24) = false)
    (n1 : P.funcs.findIdx? (·.name == "internal/reflectlite" ++ ".Swapper$" ++ toString 1) = some f1) (n2 : P.funcs.findIdx? (·.name == "internal/reflectlite" ++ ".Swapper$" ++ toString 2) = some f2) (n9 : P.funcs.findIdx? (·.name == "internal/reflectlite" ++ ".Swapper$" ++ toString 9) = some f9)
    (hx2 : ∀ W, (callFunc f2 #[.int .i64 0, .int .i64 0]).run P W = .ok (.value (.tuple #[])) W)
    (hx9 : ∀ args W, (callFunc f9 args).run P W = ((Extern.ReflectliteSwapper.swap false args).run P W).andThen fun v w' => .ok (.value v) w')
    (hb : zK P g) (hMp : ∀ g ∈ pf, M g) (hgO : gO ∉ pf) (hgR : gR ∉ pf)
    (hless : ∀ {w d fp} {i j : Int} {b : Bool}, (RT.os e r).val M w (.slice a n c) d fp → (∀ g ∈ fp, M g) → BoxV w gO tO [fv] → BoxV w gR tR [.slice a n c] → (∀ g, w.heap.size ≤ g → M g) → lsx ls d i j = some b →
      Gives P g ([.int .i64 i, .int .i64 j] ++ lb.toList) w (fun v w' => v = .bool b ∧ Chg [] w w'))
    (h0 : (RT.os e r).val M w (.slice a n c) d pf) {n0 : Nat} (hpn : ∀ q ∈ pf, q < n0) (hon : gO < n0) (hrn : gR < n0) (hMn : ∀ q, n0 ≤ q → M q) :
    ∃ sf, P.funcs.findIdx? (·.name == "internal/reflectlite" ++ ".Swapper$" ++ toString (swapperK n ie ke)) = some sf ∧
      Env P n0 (zcu r e M a n c pf gO gR tO tR fv) pf ls g lb sf (if swapperK n ie ke ≤ 2 then #[] else #[.slice a n c, typeHandle P e]) := by
  have key : ∀ sf sb, (∀ {w d d'} {i j : Int}, zcu r e M a n c pf gO gR tO tR fv w d → swx d i j = some d' → ∃ w', (callFunc sf ([.int .i64 i, .int .i64 j].toArray ++ sb)).run P w = .ok (.value (.tuple #[])) w' ∧ Chg pf w w' ∧ zcu r e M a n c pf gO gR tO tR fv w' d') →
      Env P n0 (zcu r e M a n c pf gO gR tO tR fv) pf ls g lb sf sb := fun sf sb hs => ⟨fun ⟨⟨fp, h1, h2⟩, h3, h4, h5⟩ hc hX => ⟨⟨fp, h1.mono hc (fun q hq => .inl (hMn q (hX q hq))) (fun q hq hq' => by have := hX q hq; have := hpn q (h2.mem_iff.1 hq'); omega) (fun _ h => .inl h), h2⟩, h3.chg hc (fun h => by have := hX _ h; omega), h4.chg hc (fun h => by have := hX _ h; omega), fun q hq => h5 q (Nat.le_trans hc.size hq)⟩, hb,
        fun ⟨⟨fp, h1, h2⟩, h3, h4, h5⟩ hl => hless h1 (fun q hq => hMp q (h2.mem_iff.1 hq)) h3 h4 h5 hl, hs⟩
  have hlen : ∀ {w d fp}, (RT.os e r).val M w (.slice a n c) d fp → n = d.length := fun h => by
    obtain ⟨_, _, h⟩ := yD h; cases h; rfl
  by_cases hn0 : n = 0
  · subst hn0;refine ⟨f1, n1, key _ _ ?_⟩;rintro w d d' i j ⟨⟨fp, h1, _⟩, _⟩ hs;have hd : d = [] := List.eq_nil_of_length_eq_zero (hlen h1).symm;subst hd;obtain ⟨x, hx, _⟩ := bind_some hs;obtain ⟨k, _, hk⟩ := wm hx;simp at hk
  by_cases hn1 : n = 1
  · subst hn1;refine ⟨f2, n2, key _ _ ?_⟩;rintro w d d' i j ⟨⟨fp, h1, h2⟩, h3, h4, h5⟩ hs;have hd := hlen h1;obtain ⟨x, hx, hs⟩ := bind_some hs;obtain ⟨y, hy, hs⟩ := bind_some hs;obtain ⟨k, rfl, hk⟩ := wm hx;obtain ⟨k', rfl, hk'⟩ := wm hy;have hk0 : k = 0 := by have := (List.getElem?_eq_some_iff.1 hk).1; omega
    have hk0' : k' = 0 := by have := (List.getElem?_eq_some_iff.1 hk').1; omega
    subst hk0; subst hk0';obtain ⟨z, rfl⟩ := List.length_eq_one_iff.1 hd.symm;simp at hk hk';subst hk; subst hk';obtain rfl := Option.some.inj hs;exact ⟨w, hx2 w, Chg.refl _ _, ⟨⟨fp, h1, h2⟩, h3, h4, h5⟩⟩
  · have hK : swapperK n ie ke = 9 := by
      unfold swapperK;rw [if_neg (by simpa using hn0), if_neg (by simpa using hn1), hp, h24, hke];simp
    rw [hK];refine ⟨f9, n9, key _ _ ?_⟩;rintro w d d' i j ⟨⟨fp, h1, h2⟩, h3, h4, h5⟩ hs;obtain ⟨x, hx, hs⟩ := bind_some hs;obtain ⟨y, hy, hs⟩ := bind_some hs;obtain ⟨k, rfl, hk⟩ := wm hx;obtain ⟨k', rfl, hk'⟩ := wm hy;obtain rfl := Option.some.inj hs;obtain ⟨gb, u, v, rfl, hnn, hgf, c1, c2, o1, o2, hfz, hch, fp', hp', hv'⟩ := os_swap hsz h1 hk hk' (fun q hq => hMp q (h2.mem_iff.1 hq));have hkl : k < n := by rw [hnn]; exact (List.getElem?_eq_some_iff.1 hk).1
    have hkl' : k' < n := by rw [hnn]; exact (List.getElem?_eq_some_iff.1 hk').1
    have hgp : gb ∈ pf := h2.mem_iff.1 hgf;refine ⟨_, ?_, hch.weaken (fun q hq => by simp at hq; subst hq; exact hgp), ⟨⟨fp', hv', hp'.trans h2⟩, h3.chg hch (fun hq => hgO (by simp at hq; subst hq; exact hgp)), h4.chg hch (fun hq => hgR (by simp at hq; subst hq; exact hgp)), fun q hq => h5 q (Nat.le_trans hch.size hq)⟩⟩;have := run_swap_one (P := P) false e ie hie hie1 hagg gb 0 n c k k' hkl hkl' u v o1 o2 w c1 c2 (hfz _) (hfz _);rw [hx9, if_neg (by omega)];show Result.andThen (Sem.run P (Extern.ReflectliteSwapper.swap false #[.int .i64 k, .int .i64 k', .slice (some ⟨gb, 0, none⟩) n c, typeHandle P e]) w) _ = _;rw [this]; rfl
theorem os_n {α : Type} {r : RT α} {M : Nat → Prop} {w : World} {e : TypeId} {a : Option Addr} {n c : Nat} {xs : List α} {fp : List Nat} (h : (RT.os e r).val M w (.slice a n c) xs fp) : n = xs.length := by
  obtain ⟨_, _, h⟩ := yD h; cases h; rfl
theorem less_fut {M : Nat → Prop} {w : World} {fp : List Nat} (h : ∀ g, w.heap.size ≤ g → M g) (hl : ∀ g ∈ fp, g < w.heap.size) : ∀ g, w.heap.size ≤ g → Less M fp g := fun g hg => ⟨h g hg, fun hq => by have := hl g hq; omega⟩
theorem box_cell {w : World} {g : Nat} {T : TypeId} {v : Value} {l : List Value} (h : BoxV w g T (v :: l)) : w.cell? ⟨g, 0, none⟩ = some v := by
  have := h.row 0 v rfl;simpa using this
theorem zbH {P : Program} {ρ : Operand → Value} {w w' : World} {f : FuncId} {xs : Array Operand} {ats : Array TypeId} {dst : Option Tmp} {ty : TypeId} {pos : String} {af : Array Edge} {g : Option (Nat × Bool)} {args : List Value} {v : Value}
    (hf : ρ (.func f) = .func (.func f) #[] #[]) (ha : xs.toList.map ρ = args) (hr : (callFunc f args.toArray).run P w = .ok (.value v) w') : Yv P ρ ⟨dst, .call { callee := .value (.func f), args := xs, argTypes := ats }, ty, pos, af, g⟩ w v w' :=
  VK hf ha (by simpa using hr)
theorem y_iface {P : Program} {ρ : Operand → Value} {w : World} {d : Option Tmp} {ty : TypeId} {pos : String} {af : Array Edge} {g : Option (Nat × Bool)} {x : Operand} {t e : TypeId} {v : Value} (ht : P.underlying t = some (.slice e)) (h : ρ x = v) : Yv P ρ ⟨d, .makeInterface t x, ty, pos, af, g⟩ w (.iface t v) w := by
  unfold Yv; simp [execOp, Instr.makeInterface, h, run_underlying ht]
theorem zda {P : Program} {ρ : Operand → Value} {w : World} {d : Option Tmp} {ty : TypeId} {pos : String} {af : Array Edge} {g : Option (Nat × Bool)} {fn : Fn} {xs ys : Array Operand} {as bs : List Value} (h : xs.toList.map ρ = as) (h' : ys.toList.map ρ = bs) : Yv P ρ ⟨d, .makeFunc fn xs ys, ty, pos, af, g⟩ w (.func fn as.toArray bs.toArray) w := by
  have e : xs.map ρ = as.toArray := by rw [← h]; apply Array.ext'; simp
  have e' : ys.map ρ = bs.toArray := by rw [← h']; apply Array.ext'; simp
  unfold Yv; simp [execOp, Instr.makeFunc, e, e']
end Go.G
