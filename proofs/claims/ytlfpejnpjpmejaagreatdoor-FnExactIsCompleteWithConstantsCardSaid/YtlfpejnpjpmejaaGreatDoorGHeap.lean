/- Lemmas on the model and on plain lists: a part of the proof. No conditions. -/
import Derived.Test.YtlfpejnpjpmejaaGreatDoorGDraw
import Derived.Maps.AppendAt
set_option linter.unusedVariables false
namespace Go.G
open Go.RowKit

def BoxV (w : World) (g : Nat) (T : TypeId) (cs : List Value) : Prop := w.heap[g]? = some (.cells cs.toArray T (0, 0))

section
variable {P : Program} {w w' : World} {g : Nat} {T : TypeId} {cs : List Value}

theorem BoxV.chg {G : List Nat} (h : BoxV w g T cs) (hc : Chg G w w') (hn : g ∉ G) : BoxV w' g T cs := by
  unfold BoxV at *;rw [hc.block g (Array.getElem?_eq_some_iff.1 h).1 hn]; exact h
theorem BoxV.lt (h : BoxV w g T cs) : g < w.heap.size := (Array.getElem?_eq_some_iff.1 h).1
theorem BoxV.row (h : BoxV w g T cs) : RowAt w g 0 cs := fun k c hk => by
  rw [Nat.zero_add, cell_of_row w g k cs.toArray T (0, 0) h];simpa using hk
theorem BoxV.rowAt (h : BoxV w g T cs) (l1 c l2 : List Value) (he : cs = l1 ++ (c ++ l2)) : RowAt w g l1.length c := by
  subst he;have := h.row.app_right.app_left
  rwa [Nat.zero_add] at this

theorem zg (w : World) (cs : List Value) (T : TypeId) : ∃ w' g, w' = w.alloc (.cells cs.toArray T) ∧ g = w.heap.size ∧ Chg [] w w' ∧ BoxV w' g T cs :=
  ⟨_, _, rfl, rfl, Chg.alloc w _, heap_alloc_new w _⟩

theorem Zn {t : TypeId} {b : Bool} {n : Nat} (ha : AggT P t b) (hs : SzT P t n) (h : BoxV w g T cs) (l1 c l2 : List Value) (he : cs = l1 ++ (c ++ l2)) (hn : c.length = n) (h1 : b = false → n = 1) :
    wG P t w ⟨g, l1.length, none⟩ (mkV b c) := Xh ha hs rfl (h.rowAt l1 c l2 he) hn h1

theorem zM (h : BoxV w g T cs) (l1 c l2 c' : List Value) (he : cs = l1 ++ (c ++ l2)) (hl : c'.length = c.length) (h1 : ∀ u ∈ c', u.oneCell' = true) :
    ∃ w', (∀ (t : TypeId) (v : Value), v.cells = c'.toArray → SzT P t c'.length → (storeVar t ⟨g, l1.length, none⟩ v).run P w = .ok () w') ∧ Chg [g] w w' ∧ BoxV w' g T (l1 ++ (c' ++ l2)) := by
  subst he;have hst := run_storeCells_at P g l1.length T c' 0 (l1 ++ (c ++ l2)).toArray w h (by simp; omega) h1;simp only [Nat.add_zero] at hst;have e : List.take l1.length (l1 ++ (c ++ l2)) ++ c' ++ List.drop (l1.length + c'.length) (l1 ++ (c ++ l2)) = l1 ++ (c' ++ l2) := by
    rw [List.take_left' rfl, List.append_assoc, hl, ← List.drop_drop, List.drop_left' rfl, List.drop_left' rfl]
  rw [e] at hst;refine ⟨w.setRow g (l1 ++ (c' ++ l2)).toArray, fun t v hv hs => ?_, ?_, ?_⟩
  · have hs' := SzT.run hs w;simp only [storeVar, Sem.run_bind, hs', Result.andThen_ok, hv];rw [if_neg (by simp)];exact hst
  · exact ⟨rfl, rfl, rfl, by simp, fun k _ hk => setRow_other w g k _ (fun e => hk (by simp [e]))⟩
  · exact setRow_heap w g _ _ T _ h

theorem zL {ρ : Operand → Value} {d : Option Tmp} {ty : TypeId} {pos : String} {af : Array Edge} {gd : Option (Nat × Bool)} {X Y : Operand} {t : TypeId} {p : Addr} {v : Value}
    (hx : ρ X = .pointer (some p)) (hy : ρ Y = v) (h : (storeVar t p v).run P w = .ok () w') : Ys P ρ ⟨d, .store t X Y, ty, pos, af, gd⟩ w w' := by
  unfold Ys execOp;simp [hx, hy, Instr.storeAt, Instr.sureAddr, h]

end

section
variable {P : Program} {α : Type} {r : RT α} {M M' : Nat → Prop} {w w' : World} {v : Value} {xs ys : List α} {x y : α} {fp : List Nat} {p : Addr} {t e : TypeId}

theorem YI {k g : Nat} {f' : List Nat} {c' : List Value} (hgb : v.ownBlock = some g) (h : (RT.os e r).val M w v xs fp) (hk : k < xs.length) (hown : ∀ g ∈ v.ownBlock, M g)
    (hc : r.rel M w c' y f') (hf' : f'.Nodup) (hd : ∀ g ∈ f', g ∉ fp) (hM : ∀ g, M' g → M g ∨ w.heap.size ≤ g) :
    ∃ w' fp', (∀ (t : TypeId) (u : Value), u.cells = c'.toArray → SzT P t c'.length → (storeVar t ⟨g, 0 + k * r.sz, none⟩ u).run P w = .ok () w') ∧ Chg [g] w w' ∧
      (∀ q ∈ fp', q ∈ fp ∨ q ∈ f') ∧ (RT.os e r).val M' w' v (xs.set k y) fp' := by
  obtain ⟨css, fps, hrow, hl, rfl, hnd⟩ := Yx h;obtain ⟨x, hx⟩ : ∃ x, xs[k]? = some x := ⟨xs[k], by simp [hk]⟩;obtain ⟨c1, c, c2, f1, f, f2, rfl, rfl, h1, h2, h3, h4⟩ := hl.at hx;rcases hrow.2 with ⟨rfl, h0⟩ | ⟨g', cap, cur, rfl, hb, hg, hnc, hcm, hcs, htake⟩
  · omega
  obtain rfl : g' = g := by simpa [Value.ownBlock] using hgb
  have hgM : M g' := hown g' (by simp [Value.ownBlock]);have hbox : BoxV w g' e cur.toList := by unfold BoxV; simpa using hg
  have hlen := hl.flat;have hcur : cur.toList = c1.flatten ++ (c ++ (c2.flatten ++ cur.toList.drop (xs.length * r.sz))) := by
    have : cur.toList = cur.toList.take (xs.length * r.sz) ++ cur.toList.drop (xs.length * r.sz) := (List.take_append_drop _ _).symm;rw [htake] at this;simpa [List.append_assoc] using this
  obtain ⟨w', hst, hch, hbox'⟩ := zM (P := P) hbox _ c _ c' hcur ((r.len hc).trans (r.len h4).symm) (r.one hc);have hflat : (c1 ++ c' :: c2).flatten = c1.flatten ++ (c' ++ c2.flatten) := by simp
  have hfp : ∀ q ∈ (f1 ++ f' :: f2).flatten, q ∈ (f1 ++ f :: f2).flatten ∨ q ∈ f' := by
    intro q hq;simp only [List.flatten_append, List.flatten_cons, List.mem_append] at hq ⊢;rcases hq with hq | hq | hq
    · exact .inl (.inl hq)
    · exact .inr hq
    · exact .inl (.inr (.inr hq))
  have hgn : g' ∉ (f1 ++ f :: f2).flatten := by
    intro hq;simp only [Value.ownBlock, Option.toList, List.cons_append, List.nil_append, List.nodup_cons] at hnd;exact hnd.1 hq
  have hgf' : g' ∉ f' := fun hq => hd g' hq (by simp [Value.ownBlock])
  refine ⟨w', g' :: (f1 ++ f' :: f2).flatten, fun t u hu hs => ?_, hch, ?_, ?_⟩
  · have := hst t u hu hs
    rwa [h3, ← Nat.zero_add (k * r.sz)] at this
  · intro q hq;rcases List.mem_cons.1 hq with rfl | hq
    · exact .inl (by simp [Value.ownBlock])
    · rcases hfp q hq with h | h
      · exact .inl (List.mem_append.2 (.inr h))
      · exact .inr h
  · have hl' := (hl.put h1 h2 hc).mono (M' := M') hch (fun q hq => by simp at hq; subst hq; exact .inl hgM) (fun q hq hq' => by
      simp at hq; subst hq;rcases hfp q hq' with h | h
      · exact hgn h
      · exact hgf' h) hM
    refine ⟨_, rfl, _, _, _, rfl, ?_, hl', rfl, ?_⟩
    · have hl1 := hl'.flat;rw [List.length_set] at hl1;refine ⟨by rw [hl'.flat], .inr ⟨g', cap, _, by simp, Nat.zero_le _, hbox', by simpa using hnc, hcm, ?_, ?_⟩⟩
      · have e1 := congrArg List.length hcur;have e2 := (r.len hc).trans (r.len h4).symm;simp only [List.length_append, Array.length_toList, List.size_toArray] at e1 ⊢;omega
      · rw [List.length_set];show List.take (xs.length * r.sz) (c1.flatten ++ (c' ++ (c2.flatten ++ _))) = _;rw [← List.append_assoc c', ← List.append_assoc c1.flatten, ← hflat];exact List.take_left' hl1
    · simp only [Value.ownBlock, Option.toList, List.cons_append, List.nil_append, List.nodup_cons] at hnd ⊢;refine ⟨fun hq => ?_, ?_⟩
      · rcases hfp g' hq with h | h
        · exact hgn h
        · exact hgf' h
      · have h2 := hnd.2;simp only [List.flatten_append, List.flatten_cons, List.nodup_append, List.mem_append] at h2 ⊢;refine ⟨h2.1, ⟨hf', h2.2.1.2.1, fun a ha b hb e => ?_⟩, fun a ha b hb e => ?_⟩
        · subst e;exact hd a ha (by simp [Value.ownBlock, hb])
        · subst e;rcases hb with hb | hb
          · exact hd a hb (by simp [Value.ownBlock, ha])
          · exact h2.2.2 a ha a (.inr hb) rfl

def Frz {α : Type} (r r' : RT α) : Prop := r'.sz = r.sz ∧ r'.agg = r.agg ∧ ∀ {M M' w cs x fp}, r.rel M w cs x fp → (∀ g, M' g → M g ∨ w.heap.size ≤ g) → (∀ g ∈ fp, ¬ M' g) → r'.rel M' w cs x []
theorem Frz.int {k : IntKind} : Frz (RT.int k) (RT.int k) := ⟨rfl, rfl, fun h _ _ => ⟨h.1, rfl⟩⟩
theorem Frz.bool : Frz RT.bool RT.bool := ⟨rfl, rfl, fun h _ _ => ⟨h.1, rfl⟩⟩
theorem Frz.str : Frz RT.str RT.str := ⟨rfl, rfl, fun h _ _ => ⟨h.1, rfl⟩⟩
theorem Frz.pr {β : Type} {r r' : RT α} {s s' : RT β} (h : Frz r r') (h' : Frz s s') : Frz (RT.pr r s) (RT.pr r' s') :=
  ⟨by show r'.sz + s'.sz = _ + _; rw [h.1, h'.1], rfl, fun {M M' w cs x fp} ⟨c, d, f, g, hc, hf, h1, h2⟩ hM hd => ⟨c, d, [], [], hc, rfl, h.2.2 h1 hM (fun q hq => hd q (by rw [hf]; exact List.mem_append.2 (.inl hq))),
    h'.2.2 h2 hM (fun q hq => hd q (by rw [hf]; exact List.mem_append.2 (.inr hq)))⟩⟩

theorem relL.frz {r r' : RT α} (hf : Frz r r') {css : List (List Value)} {fps : List (List Nat)} (h : relL r M w css xs fps) (hM : ∀ g, M' g → M g ∨ w.heap.size ≤ g) (hd : ∀ g ∈ fps.flatten, ¬ M' g) :
    relL r' M' w css xs (List.replicate xs.length []) := by
  induction xs generalizing css fps with
  | nil =>
    cases css with
    | nil => trivial
    | cons _ _ => cases fps <;> exact h.elim
  | cons x xs ih =>
    cases css with
    | nil => cases fps <;> exact h.elim
    | cons c css => cases fps with
      | nil => exact h.elim
      | cons f fps => exact ⟨hf.2.2 h.1 hM (fun g hg => hd g (by simp [hg])), ih h.2 (fun g hg => hd g (by simp only [List.flatten_cons, List.mem_append]; exact .inr hg))⟩

theorem Frz.os {r r' : RT α} (hf : Frz r r') : Frz (RT.os e r) (RT.rs r') := by
  refine ⟨rfl, rfl, fun {M M' w cs x fp} h hM hd => ?_⟩;obtain ⟨v, css, fps, rfl, hown, hl, rfl, hnd⟩ := h;have hl' := hl.frz hf hM (fun g hg => hd g (List.mem_append.2 (.inr hg)));rcases hown.2 with ⟨rfl, h0⟩ | ⟨g, cap, cur, rfl, hb, hg, hnc, hcm, hcs, htake⟩
  · refine ⟨none, 0, css, by rw [h0], rfl, ⟨by omega, Nat.zero_le _⟩, hl', fun h => by omega⟩
  · refine ⟨_, cap, css, rfl, rfl, ⟨hnc, hcm⟩, hl', fun _ => ⟨g, 0, rfl, hd g (by simp [Value.ownBlock]), (Array.getElem?_eq_some_iff.1 hg).1, fun k c hk => ?_⟩⟩;have := hown.cells (g := g) rfl k c hk
    rwa [Addr.add_lit] at this
theorem Frz.rs {r r' : RT α} (hf : Frz r r') : Frz (RT.rs r) (RT.rs r') := by
  refine ⟨rfl, rfl, fun {M M' w cs x fp} h hM hd => ?_⟩;obtain ⟨a, cap, css, rfl, rfl, hcap, hl, hr⟩ := h;refine ⟨a, cap, css, rfl, rfl, hcap, hl.frz hf hM (by simp), fun h0 => ?_⟩;obtain ⟨g, off, rfl, hgM, hlt, hrow⟩ := hr h0;exact ⟨g, off, rfl, fun hg => (hM g hg).elim hgM (by omega), hlt, hrow⟩
theorem Frz.val {r r' : RT α} (hf : Frz r r') (h : r.val M w v x fp) (hM : ∀ g, M' g → M g ∨ w.heap.size ≤ g) (hd : ∀ g ∈ fp, ¬ M' g) : r'.val M' w v x [] := by
  obtain ⟨cs, hv, h⟩ := h;exact ⟨cs, by rw [hf.2.1]; exact hv, hf.2.2 h hM hd⟩

theorem zQ {g : Nat} {css : List (List Value)} {fps : List (List Nat)} (hb : BoxV w g e css.flatten) (hl : relL r M w css xs fps) (hm : xs.length ≤ maxLen) (hnd : (g :: fps.flatten).Nodup) :
    (RT.os e r).val M w (.slice (some ⟨g, 0, none⟩) xs.length xs.length) xs (g :: fps.flatten) := by
  refine ⟨_, rfl, _, css, fps, rfl, ⟨hl.flat, .inr ⟨g, _, _, rfl, Nat.zero_le _, hb, Nat.le_refl _, hm, ?_, ?_⟩⟩, hl, rfl, hnd⟩
  · simp [hl.flat]
  · rw [← hl.flat]; exact List.take_of_length_le (Nat.le_refl _)
theorem xW : (RT.os e r).val M w (.slice none 0 0) ([] : List α) [] := ⟨_, rfl, _, [], [], rfl, by simpa using World.ownsRow_nil w 0 e r.sz, trivial, rfl, List.nodup_nil⟩
theorem Xy (ht : P.underlying t = some (.slice e)) (hs : SzT P e r.sz) (ty : TypeId) (h : (RT.os e r).val M w v xs fp) (a : Option Addr) (c : Nat) :
    (Builtin.append_ #[t, t] ty #[v, .slice a 0 c]).run P w = .ok v w := by
  obtain ⟨css, fps, hown, _⟩ := Yx h;obtain ⟨i, hi, his⟩ := hs;rcases hown.2 with ⟨rfl, h0⟩ | ⟨g, cap, cur, rfl, hb, hg, hnc, hcm, hcs, htake⟩
  · cases a <;> simp [Builtin.append_, run_underlying ht, sizeOf, typeInfo, hi, Builtin.lenOf, Builtin.firstCells, loadCells, loadCellsFrom]
  · cases a <;> simp [Builtin.append_, run_underlying ht, sizeOf, typeInfo, hi, Builtin.lenOf, Builtin.firstCells, loadCells, loadCellsFrom, hnc, storeCells]

theorem va {i : TypeInfo} {z : Value} {ga oa : Nat} {css' : List (List Value)} {fs' : List (List Nat)} (ht : P.underlying t = some (.slice e)) (hi : P.info? e = some i) (hz : i.zero = some z) (hsize : i.size = r.sz) (hby : i.bytes ≤ 32768) (hzs : z.cells.size = r.sz) (hsz : 0 < r.sz)
    (h : (RT.os e r).val M w v xs fp) (hrow : RowAt w ga oa css'.flatten) (hl' : relL r M w css' ys fs') (hlen : xs.length + ys.length ≤ 4294967296)
    (hown : ∀ g ∈ v.ownBlock, M g) (hd : ∀ g ∈ fs'.flatten, g ∉ fp) (hnd' : fs'.flatten.Nodup) (hM : ∀ g, M' g → M g ∨ w.heap.size ≤ g) (c : Nat) :
    ∃ v' w' fp', (∀ ty, (Builtin.append_ #[t, t] ty #[v, .slice (some ⟨ga, oa, none⟩) ys.length c]).run P w = .ok v' w') ∧ Chg v.ownBlock.toList w w' ∧ (∀ g ∈ fp', g ∈ fp ∨ g ∈ fs'.flatten ∨ w.heap.size ≤ g) ∧
      (RT.os e r).val M' w' v' (xs ++ ys) fp' := by
  obtain ⟨css, fps, hrw, hl, rfl, hnd⟩ := Yx h;have hnews : ∀ j u, css'.flatten[j]? = some u → w.cell? ((⟨ga, oa, none⟩ : Addr).add j) = some u := fun j u hj => by
    rw [Addr.add_lit]; exact hrow j u hj
  have hml : xs.length + ys.length ≤ maxLen := by unfold maxLen; omega
  have hbb : (xs.length + ys.length) * i.bytes ≤ 140737488355328 := by
    calc (xs.length + ys.length) * i.bytes ≤ 4294967296 * 32768 := Nat.mul_le_mul hlen hby
      _ = 140737488355328 := rfl
  obtain ⟨v', w', hrun, hrw', hgr, _, hblk⟩ := run_append_own_at (P := P) w 0 t 0 e i z r.sz i.bytes ht hi hz hsize rfl hzs hsz v xs.length css.flatten hrw ⟨ga, oa, none⟩ ys.length c css'.flatten hl'.flat hnews hl'.one hml hbb (Nat.zero_le _);have hch := Chg.of_grown hgr;have hG : ∀ g ∈ v.ownBlock.toList, M g ∨ w.heap.size ≤ g := fun g hg => .inl (hown g (by simpa using hg))
  have hfps : ∀ g ∈ v.ownBlock.toList, g ∉ fps.flatten := fun g hg hq => by
    rw [List.nodup_append] at hnd;exact hnd.2.2 g hg g hq rfl
  have hfs' : ∀ g ∈ v.ownBlock.toList, g ∉ fs'.flatten := fun g hg hq => hd g hq (List.mem_append.2 (.inl hg))
  have hll := (hl.mono (M' := M') hch hG hfps hM).append (hl'.mono (M' := M') hch hG hfs' hM);refine ⟨v', w', v'.ownBlock.toList ++ (fps ++ fs').flatten, fun ty => hrun, hch, fun g hg => ?_, ?_⟩
  · rcases List.mem_append.1 hg with hg | hg
    · rcases hblk with hb | hb
      · rw [hb] at hg; exact .inl (List.mem_append.2 (.inl hg))
      · rw [hb] at hg; simp at hg; subst hg; exact .inr (.inr (Nat.le_refl _))
    · rw [List.flatten_append] at hg;rcases List.mem_append.1 hg with hg | hg
      · exact .inl (List.mem_append.2 (.inr hg))
      · exact .inr (.inl hg)
  · refine ⟨_, rfl, v', css ++ css', fps ++ fs', rfl, ?_, hll, rfl, ?_⟩
    · rw [List.length_append, List.flatten_append]; exact hrw'
    · rw [List.nodup_append] at hnd ⊢;rw [List.flatten_append];refine ⟨?_, ?_, fun a ha b hb' hab => ?_⟩
      · cases v'.ownBlock <;> simp
      · rw [List.nodup_append];exact ⟨hnd.2.1, hnd', fun a ha b hb' hab => by subst hab; exact hd a hb' (List.mem_append.2 (.inr ha))⟩
      · subst hab;rcases hblk with hb | hb
        · rw [hb] at ha;rcases List.mem_append.1 hb' with h | h
          · exact hfps a ha h
          · exact hfs' a ha h
        · rw [hb] at ha; simp at ha; subst ha;rcases List.mem_append.1 hb' with h | h
          · have := hl.fpl _ h; omega
          · have := hl'.fpl _ h; omega

theorem flat_rep {β : Type} (zc : List β) (n j : Nat) (hj : j < n * zc.length) : (List.replicate n zc).flatten[j]? = zc[j % zc.length]? := by
  induction n generalizing j with
  | zero => simp at hj
  | succ n ih =>
    rw [List.replicate_succ, List.flatten_cons];by_cases h : j < zc.length
    · rw [List.getElem?_append_left h, Nat.mod_eq_of_lt h]
    · have h' : zc.length ≤ j := by omega
      rw [List.getElem?_append_right h', ih (j - zc.length) (by rw [Nat.add_mul] at hj; omega)];congr 1;rw [Nat.mod_eq_sub_mod h']

theorem zaK (z : Array Value) (n : Nat) : (madeCells z (n * z.size)).toList = (List.replicate n z.toList).flatten := by
  apply List.ext_getElem?;intro j;have hlen : (List.replicate n z.toList).flatten.length = n * z.size := by simp
  by_cases hj : j < n * z.size
  · have hpos : 0 < z.size := by
      rcases Nat.eq_zero_or_pos z.size with h | h
      · rw [h] at hj; simp at hj
      · exact h
    rw [flat_rep z.toList n j (by simpa using hj)];have hm : j % z.size < z.size := Nat.mod_lt _ hpos;simp [madeCells, hj, hm]
  · have h1 : (madeCells z (n * z.size)).toList.length ≤ j := by rw [Array.length_toList, size_madeCells]; omega
    have h2 : (List.replicate n z.toList).flatten.length ≤ j := by rw [hlen]; omega
    rw [List.getElem?_eq_none h1, List.getElem?_eq_none h2]

theorem UW {zc : List Value} {M : Nat → Prop} {w : World} (h : r.rel M w zc x []) : ∀ n, relL r M w (List.replicate n zc) (List.replicate n x) (List.replicate n [])
  | 0 => trivial
  | n + 1 => ⟨h, UW h n⟩

theorem os_make {i : TypeInfo} {z : Value} {zc : List Value} {n : Nat} (ht : P.underlying t = some (.slice e)) (hi : P.info? e = some i) (hz : i.zero = some z) (hsize : i.size = zc.length) (hby : i.bytes ≤ 32768) (hzs : z.cells = zc.toArray)
    (hr : ∀ M w, r.rel M w zc x []) (hn : n ≤ 4294967296) :
    ∃ w' g, (Instr.makeSlice t (.int .i64 (n : Int)) (.int .i64 (n : Int))).run P w = .ok (.slice (some ⟨g, 0, none⟩) n n) w' ∧ Chg [] w w' ∧ w.heap.size ≤ g ∧ (RT.os e r).val M' w' (.slice (some ⟨g, 0, none⟩) n n) (List.replicate n x) [g] := by
  have hb : (i.bytes : Int) * (n : Int) ≤ 281474976710656 := by
    have : i.bytes * n ≤ 32768 * 4294967296 := Nat.mul_le_mul hby hn;have h2 : ((i.bytes * n : Nat) : Int) ≤ ((32768 * 4294967296 : Nat) : Int) := Int.ofNat_le.2 this;rw [Int.natCast_mul] at h2;omega
  have hrun := run_make (P := P) w t e i z ht hi hz .i64 .i64 (n : Int) (n : Int) (Int.natCast_nonneg n) (Int.le_refl _) hb (by omega);refine ⟨w.alloc (.cells (madeCells z.cells (n * i.size)) e), w.heap.size, ?_, Chg.alloc w _, Nat.le_refl _, ?_⟩
  · simpa using hrun
  · have hl := UW (M := M') (w := w.alloc (.cells (madeCells z.cells (n * i.size)) e)) (hr _ _) n;have hbox : BoxV (w.alloc (.cells (madeCells z.cells (n * i.size)) e)) w.heap.size e (List.replicate n zc).flatten := by
      unfold BoxV;have := zaK z.cells n;have e1 : n * i.size = n * z.cells.size := by rw [hsize, hzs]; simp
      have e2 : z.cells.toList = zc := by rw [hzs]
      rw [← e1, e2] at this;rw [← this];exact heap_alloc_new w _
    have hfl : (List.replicate n ([] : List Nat)).flatten = [] := by simp
    have := zQ (r := r) (M := M') hbox hl (by rw [List.length_replicate]; unfold maxLen; omega) (by rw [hfl]; simp);rw [hfl, List.length_replicate] at this;exact this

structure RowT (P : Program) (t e : TypeId) (n : Nat) (z : List Value) : Prop where
  und : P.underlying t = some (.slice e)
  inf : ∃ i zv, P.info? e = some i ∧ i.zero = some zv ∧ zv.cells = z.toArray ∧ i.size = n ∧ i.bytes ≤ 32768
  len : z.length = n
  pos : 0 < n

theorem yO {z : List Value} {s : Value} {zs : List α} (hT : RowT P t e r.sz z) (hy : app xs ys = some zs) (h : (RT.os e r).val M w v xs fp) (h' : (RT.rs r).val M w s ys []) (hown : ∀ g ∈ fp, M g) :
    ∃ a n c w' fp', (∀ ty, (Builtin.append_ #[t, t] ty #[v, s]).run P w = .ok (.slice a n c) w') ∧ Chg v.ownBlock.toList w w' ∧ (∀ g ∈ fp', g ∈ fp ∨ w.heap.size ≤ g) ∧ (RT.os e r).val M w' (.slice a n c) zs fp' := by
  obtain ⟨hlen, rfl⟩ := VH hy;obtain ⟨i, zv, hi, hz, hzc, hsz, hby⟩ := hT.inf;obtain ⟨a, cap, css, rfl, _, _, hl, hr⟩ := Wg h';have hob : ∀ g ∈ v.ownBlock, M g := fun g hg => hown g (by
    obtain ⟨_, _, _, _, rfl, _⟩ := Yx h;exact List.mem_append.2 (.inl (by simpa using hg)))
  by_cases h0 : ys = []
  · subst h0;obtain ⟨a1, n1, c1, rfl⟩ := zch h;refine ⟨a1, n1, c1, w, fp, fun ty => Xy hT.und ⟨i, hi, hsz⟩ ty h a cap, Chg.refl _ _, fun g hg => .inl hg, ?_⟩;rw [List.append_nil]; exact h
  · have hpos : 0 < ys.length := List.length_pos_iff.2 h0;obtain ⟨g, off, rfl, hg, hlt, hrow⟩ := hr hpos;obtain ⟨v', w', fp', h1, h2, h3, h4⟩ := va (M' := M) hT.und hi hz hsz hby (by rw [hzc]; simpa using hT.len) hT.pos h hrow hl hlen hob (by simp) (by simp) (fun _ h => .inl h) cap;obtain ⟨a1, n1, c1, rfl⟩ := zch h4;exact ⟨a1, n1, c1, w', fp', h1, h2, fun g hg => (h3 g hg).elim .inl (fun h => h.elim (fun h => by simp at h) .inr), h4⟩

theorem Zg {z : List Value} {s : Value} {zs : List α} {fp2 : List Nat} (hT : RowT P t e r.sz z) (hy : app xs ys = some zs) (h : (RT.os e r).val M w v xs fp) (h' : (RT.os e r).val M w s ys fp2) (hown : ∀ g ∈ fp, M g) (hd : ∀ g ∈ fp2, g ∉ fp) :
    ∃ a n c w' fp', (∀ ty, (Builtin.append_ #[t, t] ty #[v, s]).run P w = .ok (.slice a n c) w') ∧ Chg v.ownBlock.toList w w' ∧ (∀ g ∈ fp', g ∈ fp ∨ g ∈ fp2 ∨ w.heap.size ≤ g) ∧ (RT.os e r).val M w' (.slice a n c) zs fp' := by
  obtain ⟨hlen, rfl⟩ := VH hy;obtain ⟨i, zv, hi, hz, hzc, hsz, hby⟩ := hT.inf;obtain ⟨css, fps, hrw, hl, rfl, hnd⟩ := Yx h';have hob : ∀ g ∈ v.ownBlock, M g := fun g hg => hown g (by
    obtain ⟨_, _, _, _, rfl, _⟩ := Yx h;exact List.mem_append.2 (.inl (by simpa using hg)))
  rcases hrw.2 with ⟨rfl, h0⟩ | ⟨g, cap, cur, rfl, hb, hg, hnc, hcm, hcs, htake⟩
  · have h0 : ys = [] := List.eq_nil_of_length_eq_zero h0;subst h0;obtain ⟨a1, n1, c1, rfl⟩ := zch h;refine ⟨a1, n1, c1, w, fp, fun ty => Xy hT.und ⟨i, hi, hsz⟩ ty h none 0, Chg.refl _ _, fun g hg => .inl hg, ?_⟩;rw [List.append_nil]; exact h
  · have hrow : RowAt w g 0 css.flatten := fun q u hq => by
      have := hrw.cells (g := g) rfl q u hq
      rwa [Addr.add_lit] at this
    rw [List.nodup_append] at hnd;obtain ⟨v', w', fp', h1, h2, h3, h4⟩ := va (M' := M) hT.und hi hz hsz hby (by rw [hzc]; simpa using hT.len) hT.pos h hrow hl hlen hob (fun q hq => hd q (List.mem_append.2 (.inr hq))) hnd.2.1 (fun _ h => .inl h) cap;obtain ⟨a1, n1, c1, rfl⟩ := zch h4;exact ⟨a1, n1, c1, w', fp', h1, h2, fun q hq => (h3 q hq).elim .inl (fun h => h.elim (fun h => .inr (.inl (List.mem_append.2 (.inr h)))) (fun h => .inr (.inr h))), h4⟩

theorem Wb {z : List Value} {n : Int} {zs : List α} (hT : RowT P t e r.sz z) (hy : mks n x = some zs) (hr : ∀ M w, r.rel M w z x []) :
    ∃ a m c w' fp, (Instr.makeSlice t (.int .i64 n) (.int .i64 n)).run P w = .ok (.slice a m c) w' ∧ Chg [] w w' ∧ (∀ g ∈ fp, w.heap.size ≤ g) ∧ (RT.os e r).val M w' (.slice a m c) zs fp := by
  obtain ⟨h0, h1, rfl⟩ := mks_some hy;obtain ⟨i, zv, hi, hz, hzc, hsz, hby⟩ := hT.inf;obtain ⟨w', g, h2, h3, h4, h5⟩ := os_make (M' := M) (n := n.toNat) hT.und hi hz (by rw [hsz, hT.len]) hby hzc hr (by omega);rw [Int.toNat_of_nonneg h0] at h2;exact ⟨_, _, _, w', [g], h2, h3, fun q hq => by simp at hq; subst hq; exact h4, h5⟩
end
end Go.G
