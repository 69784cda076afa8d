/- Lemmas on the model and on plain lists: a part of the proof. No conditions. -/
import Derived.Test.YtkbacbikbndakaaGreatGY2
set_option linter.unusedVariables false
namespace Go.G
open Go.RowKit

section
variable {P : Program} {α β : Type} {r r' : RT α} {r2 : RT β} {N M M' : Nat → Prop} {w w' : World} {v u : Value} {xs : List α} {x : α} {fp f G R : List Nat} {p : Addr} {e e2 : TypeId} {g g2 : Nat} {i : Int}

theorem ZG (hF : Frz r r') (ha : r.at_ M w p x f) (hf : ∀ q ∈ f, q ∈ fp) : r'.at_ (Less M fp) w p x [] := by
  obtain ⟨hp, cs, hrow, hr⟩ := ha
  exact ⟨hp, cs, hrow, hF.2.2 hr Less.sub (fun g hg h => h.2 (hf g hg))⟩
def RT.Rd (r : RT α) : Prop := ∀ {M w cs x fp}, r.rel M w cs x fp → r.rel M w cs x []
theorem Rd.int {k : IntKind} : (RT.int k).Rd := fun h => ⟨h.1, rfl⟩
theorem Rd.bool : RT.bool.Rd := fun h => ⟨h.1, rfl⟩
theorem Rd.rs : (RT.rs r).Rd := fun ⟨a, cap, css, h1, _, h2⟩ => ⟨a, cap, css, h1, rfl, h2⟩
theorem Rd.pr {s : RT β} (h : r.Rd) (h' : s.Rd) : (RT.pr r s).Rd := fun ⟨c, d, _, _, h1, _, h3, h4⟩ => ⟨c, d, [], [], h1, rfl, h h3, h' h4⟩
theorem UE (hR : r.Rd) (ha : r.at_ M w p x f) : r.at_ M w p x [] := by
  obtain ⟨hp, cs, hrow, hr⟩ := ha
  exact ⟨hp, cs, hrow, hR hr⟩

theorem RowAt.uniq {off : Nat} {c d : List Value} (h : RowAt w g off c) (h' : RowAt w g off d) (hl : c.length = d.length) : c = d := by
  apply List.ext_getElem hl
  intro j h1 h2
  have a := h j _ (List.getElem?_eq_getElem h1)
  have b := h' j _ (List.getElem?_eq_getElem h2)
  exact Option.some.inj (a.symm.trans b)

theorem os_put {c : List Value} (hgb : v.ownBlock = some g) (h : (RT.os e r).val M w v xs fp) (hx : idx xs i = some x) (hrow : RowAt w g (0 + i.toNat * r.sz) c) (hlen : c.length = r.sz) (hM : ∀ q ∈ fp, M q) :
    ∃ f, r.rel M w c x f ∧ (∀ q ∈ f, q ∈ fp) ∧ f.Nodup ∧ ∀ w' G x' f', Chg G w w' → (∀ q ∈ G, q ∈ f) → r.rel M w' c x' f' → f'.Nodup → (∀ q ∈ f', q ∈ f ∨ w.heap.size ≤ q) → ∃ fp', (RT.os e r).val M w' v (xs.set i.toNat x') fp' ∧ (∀ q ∈ fp', q ∈ fp ∨ w.heap.size ≤ q) := by
  obtain ⟨k, rfl, hk⟩ := xK hx
  obtain ⟨css, fps, hown, hl, rfl, hnd⟩ := ZQ h
  obtain ⟨c1, c', c2, f1, f, f2, rfl, rfl, h1, h2, h3, h4⟩ := hl.at hk
  have hrow' : RowAt w g 0 (c1 ++ c' :: c2).flatten := fun q u hq => by
    have := hown.cells (g := g) hgb q u hq
    rwa [Addr.add_lit] at this
  have hcc : c' = c := by
    have a := hrow'
    rw [List.flatten_append, List.flatten_cons] at a
    have b := a.app_right.app_left
    rw [h3] at b
    exact b.uniq hrow ((r.len h4).trans hlen.symm)
  subst hcc
  rw [List.nodup_append] at hnd
  obtain ⟨hn1, hn2, hn3⟩ := hnd
  have hnf : f.Nodup := by
    simp only [List.flatten_append, List.flatten_cons, List.nodup_append] at hn2
    exact hn2.2.1.1
  refine ⟨f, h4, fun q hq => List.mem_append.2 (.inr (by simp [hq])), hnf, fun w' G x' f' hc hG hr hnf' hf' => ?_⟩
  have hgf : ∀ q ∈ v.ownBlock.toList, q ∉ (f1 ++ f :: f2).flatten := fun q hq hq' => hn3 q hq q hq' rfl
  have hGM : ∀ q ∈ G, M q ∨ w.heap.size ≤ q := fun q hq => .inl (hM q (List.mem_append.2 (.inr (by simp [hG q hq]))))
  have hn2' := hn2
  simp only [List.flatten_append, List.flatten_cons, List.nodup_append, List.mem_append] at hn2
  -- the others stand
  obtain ⟨hl1, hl2⟩ : relL r M w' (c1 ++ c' :: c2) (xs.set k x') (f1 ++ f' :: f2) ∧ True := by
    refine ⟨?_, trivial⟩
    have key : ∀ (c1 : List (List Value)) (xs : List α) (f1 : List (List Nat)) (k : Nat), relL r M w (c1 ++ c' :: c2) xs (f1 ++ f :: f2) → c1.length = k → f1.length = k → (∀ q ∈ G, q ∉ f1.flatten) → (∀ q ∈ G, q ∉ f2.flatten) →
        relL r M w' (c1 ++ c' :: c2) (xs.set k x') (f1 ++ f' :: f2) := by
      intro c1
      induction c1 with
      | nil =>
        intro xs f1 k hl e1 e2 h1 h2
        subst e1
        have : f1 = [] := List.eq_nil_of_length_eq_zero (by simpa using e2)
        subst this
        cases xs with
        | nil => exact hl.elim
        | cons y ys => exact ⟨hr, hl.2.mono hc hGM h2 (fun _ h => .inl h)⟩
      | cons d c1 ih =>
        intro xs f1 k hl e1 e2 h1 h2
        cases f1 with
        | nil => subst e1; simp at e2
        | cons a f1 =>
          cases xs with
          | nil => exact hl.elim
          | cons y ys =>
            subst e1
            exact ⟨r.mono hl.1 hc hGM (fun q hq hq' => h1 q hq (by simp [hq'])) (fun _ h => .inl h), ih ys f1 c1.length hl.2 rfl (by simpa using e2) (fun q hq hq' => h1 q hq (by simp only [List.flatten_cons, List.mem_append]; exact .inr hq')) h2⟩
    exact key c1 xs f1 k hl h1 h2 (fun q hq hq' => hn2.2.2 q hq' q (.inl (hG q hq)) rfl) (fun q hq hq' => hn2.2.1.2.2 q (hG q hq) q hq' rfl)
  have hsub : ∀ q ∈ (f1 ++ f' :: f2).flatten, q ∈ (f1 ++ f :: f2).flatten ∨ w.heap.size ≤ q := by
    intro q hq
    simp only [List.flatten_append, List.flatten_cons, List.mem_append] at hq ⊢
    rcases hq with hq | hq | hq
    · exact .inl (.inl hq)
    · rcases hf' q hq with h | h
      · exact .inl (.inr (.inl h))
      · exact .inr h
    · exact .inl (.inr (.inr hq))
  have hlt : ∀ q ∈ (f1 ++ f :: f2).flatten, q < w.heap.size := fun q hq => hl.fpl q hq
  have hlt1 : ∀ q ∈ f1.flatten, q < w.heap.size := fun q hq => hlt q (by simp only [List.flatten_append, List.mem_append]; exact .inl hq)
  have hlt2 : ∀ q ∈ f2.flatten, q < w.heap.size := fun q hq => hlt q (by simp only [List.flatten_append, List.flatten_cons, List.mem_append]; exact .inr (.inr hq))
  have hltv : ∀ q ∈ v.ownBlock.toList, q < w.heap.size := fun q hq => (hown.lt q (by simpa using hq)).2
  refine ⟨v.ownBlock.toList ++ (f1 ++ f' :: f2).flatten, ⟨_, rfl, v, _, _, rfl, ?_, hl1, rfl, ?_⟩, fun q hq => ?_⟩
  · rw [List.length_set]
    refine ⟨hown.1, ?_⟩
    rcases hown.2 with hn | ⟨g', cap, cur, rfl, hb, hgg, rest⟩
    · exact .inl hn
    · refine .inr ⟨g', cap, cur, rfl, hb, ?_, rest⟩
      rw [hc.block g' (Array.getElem?_eq_some_iff.1 hgg).1 (fun e => hgf g' (by simp [Value.ownBlock]) (by simp [hG g' e]))]
      exact hgg
  · rw [List.nodup_append]
    refine ⟨hn1, ?_, fun a ha b hb e => by
      subst e
      rcases hsub a hb with h | h
      · exact hgf a ha h
      · have := hltv a ha; omega⟩
    simp only [List.flatten_append, List.flatten_cons, List.nodup_append, List.mem_append]
    exact ⟨hn2.1, ⟨hnf', hn2.2.1.2.1, fun a ha b hb e => by
      rcases hf' a ha with h | h
      · exact hn2.2.1.2.2 a h b hb e
      · have := hlt2 b hb; omega⟩, fun a ha b hb e => by
      rcases hb with hb | hb
      · rcases hf' b hb with h | h
        · exact hn2.2.2 a ha b (.inl h) e
        · have := hlt1 a ha; omega
      · exact hn2.2.2 a ha b (.inr hb) e⟩
  · rcases List.mem_append.1 hq with hq | hq
    · exact .inl (List.mem_append.2 (.inl hq))
    · exact (hsub q hq).imp (fun h => List.mem_append.2 (.inr h)) id

theorem ZR {P : Program} {t : TypeId} (ha : AggT P t false) (hs : SzT P t 1) (hag : r.agg = false) (hsz : r.sz = 1) (h : r.at_ M w p x fp) : ∃ v, XY P t w p v ∧ RowAt w p.block p.off [v] ∧ r.val M w v x fp := by
  obtain ⟨hp, cs, hrow, hr⟩ := h
  have hl := (r.len hr).trans hsz
  match cs, hl with
  | [c], _ =>
    refine ⟨c, ?_, hrow, [c], ?_, hr⟩
    · have := xf (cs := [c]) ha hs hp hrow rfl (fun _ => rfl)
      simpa [mkV] using this
    · simp [mkV, hag]

def Keeps (w0 : World) (M M' : Nat → Prop) : Prop := ∀ g, M g → M' g ∨ w0.heap.size ≤ g
theorem Keeps.refl {w0 : World} : Keeps w0 M M := fun _ h => .inl h
theorem Keeps.trans {w0 : World} {A B C : Nat → Prop} (h : Keeps w0 A B) (h' : Keeps w0 B C) : Keeps w0 A C := fun g hg => (h g hg).elim (h' g) .inr
theorem Keeps.less {w0 : World} (ho : Own (Nw w0 []) M w (fp ++ R)) : Keeps w0 M (Less M fp) := fun g hg => by
  by_cases h : g ∈ fp
  · exact .inr ((ho.inN g h).resolve_left (fun h => nomatch h))
  · exact .inl ⟨hg, h⟩
def Past (M : Nat → Prop) (w w' : World) : Nat → Prop := fun g => M g ∧ (g < w.heap.size ∨ w'.heap.size ≤ g)
theorem Past.sub : ∀ g, Past M w w' g → M g := fun _ h => h.1
theorem Own.past (h : Own N M w R) (hc : Chg G w w') : Own N (Past M w w') w' R :=
  ⟨h.1, fun g hg => ⟨Nat.lt_of_lt_of_le (h.2.1 g hg).1 hc.size, ⟨(h.2.1 g hg).2.1, .inl (h.2.1 g hg).1⟩, (h.2.1 g hg).2.2⟩, fun g hg => ⟨⟨(h.2.2 g (Nat.le_trans hc.size hg)).1, .inr hg⟩, (h.2.2 g (Nat.le_trans hc.size hg)).2⟩⟩
theorem Keeps.past {w0 : World} (h : w0.heap.size ≤ w.heap.size) : Keeps w0 M (Past M w w') := fun g hg => by
  by_cases h1 : g < w.heap.size
  · exact .inl ⟨hg, .inl h1⟩
  · exact .inr (by omega)
theorem Keeps.out {w0 : World} {v : Value} (hk : Keeps w0 M M') (h : r.val M' w v x fp) : r.val (Past M w0 w) w v x fp :=
  h.sub (fun g hg => by
    rcases hg.2 with h1 | h1
    · rcases hk g hg.1 with h2 | h2
      · exact .inl h2
      · omega
    · exact .inr h1)

theorem YS {w0 : World} {r' : RT (List α)} (hF : Frz (RT.os e r) r') (h : (RT.os e r).val M w v xs fp) (ho : Own (Nw w0 []) M w (fp ++ R)) :
    ∃ M', M' = Less M fp ∧ (∀ g, M' g → M g ∨ w.heap.size ≤ g) ∧ Keeps w0 M M' ∧ Own (Nw w0 []) M' w R ∧ r'.val M' w v xs [] :=
  ⟨_, rfl, Less.sub, Keeps.less ho, ho.less, hF.val h Less.sub Less.not⟩
theorem Xh {w0 : World} (hF : Frz r r') (h : (RT.os e r).val M w v xs fp) (ho : Own (Nw w0 []) M w (fp ++ R)) :
    ∃ M' f', (∀ g, M' g → M g ∨ w.heap.size ≤ g) ∧ Keeps w0 M M' ∧ Own (Nw w0 []) M' w (f' ++ R) ∧ (RT.os e r').val M' w v xs f' := by
  obtain ⟨css, fps, hown, hl, rfl, hnd⟩ := ZQ h
  have hn := hnd
  rw [List.nodup_append] at hn
  have ho2 : Own (Nw w0 []) M w (fps.flatten ++ (v.ownBlock.toList ++ R)) := ho.perm (by rw [← List.append_assoc]; exact List.perm_append_comm.append_right R)
  have e0 : (List.replicate xs.length ([] : List Nat)).flatten = [] := by simp
  refine ⟨Less M fps.flatten, v.ownBlock.toList, Less.sub, Keeps.less ho2, ho2.less, ⟨_, rfl, v, css, List.replicate xs.length [], rfl, ?_, hl.frz hF Less.sub Less.not, by rw [e0, List.append_nil], hn.1⟩⟩
  rw [hF.1]; exact hown
end

section
variable {P : Program} {ops : Array Oper} {Q : Exit → Act → World → Prop} {n : Nat} {σ : Nat → Value} {w : World}
theorem WN {j t : Nat} (hj : (ops[j]?).bind (·.dst) = some t) (h : ev n σ (.tmp t) = undef) : yielded ops (fr n σ).tmps j = none := by
  unfold yielded
  rw [hj]
  simp only [ev] at h
  simp only [Option.bind_some, uD]
  cases hb : Nat.blt t n with
  | false => rfl
  | true => rw [hb] at h; simp only [cond_true] at h ⊢; rw [h]; rfl
theorem wD {d : Nat} {op : Op} {ty : TypeId} {pos : String} {af : Array Edge} {j tg : Nat} {want : Bool} {rest : List Oper}
    (hj : (ops[j]?).bind (·.dst) = some tg) (hg : ev n σ (.tmp tg) = undef) (k : WL P ops Q rest (fr n (upd σ d undef)) w) :
    WL P ops Q (⟨some d, op, ty, pos, af, some (j, want)⟩ :: rest) (fr n σ) w := by
  refine ⟨wpList_step fun K hK => ?_⟩
  rw [if_neg (by simp [Region.wanted, WN hj hg])]
  rw [YH]
  exact hK _ _ k.out
theorem xT {T : List Nat} {S : World → Prop} {fuel : Nat} {tl : Bool} {listed : Array Bool} {d : Nat} {op : Op} {ty : TypeId} {pos : String} {af : Array Edge} (i : Nat) {j tg : Nat} {want : Bool} (hi : ops[i]? = some ⟨some d, op, ty, pos, af, some (j, want)⟩) (hc : chkF ops T listed i false = true) (hj : (ops[j]?).bind (·.dst) = some tg) (hg : ev n σ (.tmp tg) = undef) (hS : tl = false → S w)
    (h : X P ops Q S T fuel tl (listed.setIfInBounds i true) (fr n (upd σ d undef)) w) : X P ops Q S T (fuel + 1) tl listed (fr n σ) w :=
  Wt hi hc (.inr ⟨by simp [Region.wanted, WN hj hg], rfl⟩) (fun h => by cases h) hS (by rw [YH]; exact h)
end

section
variable {P : Program} {ops : Array Oper} {Q : Exit → Act → World → Prop} {w : World} {T : List Nat} {S : World → Prop} {fuel : Nat} {tl : Bool} {listed : Array Bool}
def chkL (ops : Array Oper) (listed : Array Bool) (L : List Nat) : Bool := Region.ready .any ops listed == L
theorem x_many {a : Act} (L : List Nat) (hc : chkL ops listed L = true) (hne : L ≠ [])
    (h : ∀ i ∈ L, Closed ops listed → Closed ops (listed.setIfInBounds i true) → wpOp P ops (NP Q) i (fun a' w' => ((tl || T.contains i) = false → S w') ∧ wh P ops (NP Q) S T fuel (tl || T.contains i) (listed.setIfInBounds i true) a' w') a w) :
    X P ops Q S T (fuel + 1) tl listed a w := by
  intro hcl
  have hr : Region.ready .any ops listed = L := by simpa [chkL] using hc
  refine ⟨fun h => absurd (hr.symm.trans h) hne, fun k hk => ?_⟩
  have hk' := hk
  rw [hr] at hk'
  exact h k hk' hcl (hcl.set hk)
theorem all3 {p : Nat → Prop} {i j k : Nat} (h1 : p i) (h2 : p j) (h3 : p k) : ∀ q ∈ [i, j, k], p q := by
  intro q hq
  simp only [List.mem_cons, List.not_mem_nil, or_false] at hq
  rcases hq with rfl | rfl | rfl <;> assumption
end

section
variable {N M M' : Nat → Prop} {w w' : World} {F R L' : List Nat}
theorem Own.lend (h : Own N M w (F ++ R)) : Own (Nw w F) M w F :=
  ⟨h.nd, fun g hg => ⟨h.lt g hg, h.inM g hg, .inl hg⟩, fun g hg => ⟨(h.2.2 g hg).1, .inr hg⟩⟩
theorem Own.top (h : Own N M w F) : Own N (fun _ => True) w F := ⟨h.1, fun g hg => ⟨(h.2.1 g hg).1, trivial, (h.2.1 g hg).2.2⟩, fun g hg => ⟨trivial, (h.2.2 g hg).2⟩⟩
theorem Own.join (h : Own N M w (F ++ R)) (hc : Chg F w w') (h' : Own (Nw w F) M' w' L') : Own N M w' (L' ++ R) :=
  h.grow hc (fun g hg => (h'.2.1 g hg).2.2) h'.1 (fun g hg => (h'.2.1 g hg).1)
theorem Own.join0 (h : Own N M w R) (hc : Chg [] w w') (h' : Own (Nw w []) M' w' L') : Own N M w' (L' ++ R) := Own.join (F := []) h hc h'
theorem Own.part {X fp : List Nat} (h : Own N M w (fp ++ R)) (hs : ∀ g ∈ X, g ∈ fp) (hn : X.Nodup) : Own (Nw w X) M w X :=
  ⟨hn, fun g hg => ⟨h.lt g (hs g hg), h.inM g (hs g hg), .inl hg⟩, fun g hg => ⟨(h.2.2 g hg).1, .inr hg⟩⟩
theorem pr_split {α β : Type} {r : RT α} {s : RT β} {c d : List Value} {x : α × β} {fp : List Nat} (h : (RT.pr r s).rel M w (c ++ d) x fp) (hl : c.length = r.sz) : ∃ f g, fp = f ++ g ∧ r.rel M w c x.1 f ∧ s.rel M w d x.2 g := by
  obtain ⟨c', d', f, g, hcd, rfl, h1, h2⟩ := h
  obtain ⟨rfl, rfl⟩ := List.append_inj hcd (hl.trans (r.len h1).symm)
  exact ⟨f, g, rfl, h1, h2⟩
theorem int_fp {k : IntKind} {n : Int} {cs : List Value} {fp : List Nat} (h : (RT.int k).rel M w cs n fp) : fp = [] := h.2
end

section
variable {P : Program} {ops : Array Oper} {Q : Exit → Act → World → Prop} {w : World} {T : List Nat} {S : World → Prop} {fuel n d i : Nat} {tl : Bool} {listed : Array Bool} {σ : Nat → Value} {op : Op} {ty : TypeId} {pos : String} {af : Array Edge}
end
end Go.G
