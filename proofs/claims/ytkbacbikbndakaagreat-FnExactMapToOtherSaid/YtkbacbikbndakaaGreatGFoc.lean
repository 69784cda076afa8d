/- Lemmas on the model and on plain lists: a part of the proof. No conditions. -/
import Derived.Test.YtkbacbikbndakaaGreatGSh
set_option linter.unusedVariables false
namespace Go.G
open Go.RowKit

def ishr (k : IntKind) (a b : Int) : Int := a.fdiv (2 ^ min b.toNat k.bits)
section
variable {P : Program} {ρ : Operand → Value} {w : World} {d : Option Tmp} {ty : TypeId} {pos : String} {af : Array Edge} {g : Option (Nat × Bool)}
  {x y : Operand} {t t' : TypeId} {a b : Int} {k k' : IntKind}
theorem zbn (h : ρ x = .int k a) (h' : ρ y = .int k' b) (h0 : 0 ≤ b) : Yv P ρ ⟨d, .binOp .shr t x y t', ty, pos, af, g⟩ w (.int k (ishr k a b)) w := by
  unfold Yv execOp; simp [h, h', yq, binOp, Op.shift, ishr, show ¬ b < 0 by omega]
end

section
variable {α β : Type} {r : RT α} {M M' : Nat → Prop} {w w' : World} {v : Value} {x : α} {fp : List Nat} {e : TypeId} {xs : List α} {i : Int} {g : Nat}
theorem zbQ {off : Nat} {l1 c l2 : List Value} (h : RowAt w g off (l1 ++ (c ++ l2))) : RowAt w g (off + l1.length) c := h.app_right.app_left
theorem part_load {P : Program} {t : TypeId} {b : Bool} {n off : Nat} {l1 c l2 cs : List Value} (ha : AggT P t b) (hs : SzT P t n) (h : RowAt w g off cs) (he : cs = l1 ++ (c ++ l2)) (hn : c.length = n) (h1 : b = false → n = 1) :
    XY P t w ⟨g, off + l1.length, none⟩ (mkV b c) := xf ha hs rfl (by subst he; exact zbQ h) hn h1
theorem at_open {p : Addr} {f : List Nat} (h : r.at_ M w p x f) : ∃ cs, RowAt w p.block p.off cs ∧ r.rel M w cs x f := h.2

theorem os_focus (hgb : v.ownBlock = some g) (h : (RT.os e r).val M w v xs fp) (hx : idx xs i = some x) (hM : ∀ q ∈ fp, M q) :
    ∃ L1 c L2 f, L1.length = 0 + i.toNat * r.sz ∧ c.length = r.sz ∧ BoxV w g e (L1 ++ (c ++ L2)) ∧ r.rel M w c x f ∧ (∀ q ∈ f, q ∈ fp) ∧ f.Nodup ∧ g ∈ fp ∧ g ∉ f ∧
      ∀ w' G c' x' f', Chg G w w' → (∀ q ∈ G, q = g ∨ q ∈ f) → BoxV w' g e (L1 ++ (c' ++ L2)) → r.rel M w' c' x' f' → f'.Nodup → (∀ q ∈ f', q ∈ f ∨ w.heap.size ≤ q) →
        ∃ fp', (RT.os e r).val M w' v (xs.set i.toNat x') fp' ∧ (∀ q ∈ fp', q ∈ fp ∨ w.heap.size ≤ q) := by
  obtain ⟨k, rfl, hk⟩ := xK hx
  obtain ⟨css, fps, hown, hl, rfl, hnd⟩ := ZQ h
  obtain ⟨c1, c, c2, f1, f, f2, rfl, rfl, h1, h2, h3, h4⟩ := hl.at hk
  have hkl : k < xs.length := (List.getElem?_eq_some_iff.1 hk).1
  rcases hown.2 with ⟨rfl, h0⟩ | ⟨g', cap, cur, rfl, hb, hg, hnc, hcm, hcs, htake⟩
  · omega
  obtain rfl : g' = g := by simpa [Value.ownBlock] using hgb
  have hbox : BoxV w g' e cur.toList := by unfold BoxV; simpa using hg
  have hlen := hl.flat
  have hcur : cur.toList = c1.flatten ++ (c ++ (c2.flatten ++ cur.toList.drop (xs.length * r.sz))) := by
    have : cur.toList = cur.toList.take (xs.length * r.sz) ++ cur.toList.drop (xs.length * r.sz) := (List.take_append_drop _ _).symm
    rw [htake] at this
    simpa [List.append_assoc] using this
  rw [List.nodup_append] at hnd
  obtain ⟨hn1, hn2, hn3⟩ := hnd
  have hgn : g' ∉ (f1 ++ f :: f2).flatten := fun hq => hn3 g' (by simp [Value.ownBlock]) g' hq rfl
  have hnf : f.Nodup := by
    simp only [List.flatten_append, List.flatten_cons, List.nodup_append] at hn2
    exact hn2.2.1.1
  have hgf : g' ∉ f := fun hq => hgn (by simp [hq])
  refine ⟨c1.flatten, c, c2.flatten ++ cur.toList.drop (xs.length * r.sz), f, by rw [h3, Int.toNat_natCast, Nat.zero_add], r.len h4, by rw [← hcur]; exact hbox, h4, fun q hq => List.mem_append.2 (.inr (by simp [hq])), hnf, List.mem_append.2 (.inl (by simp [Value.ownBlock])), hgf, fun w' G c' x' f' hc hG hbox' hr hnf' hf' => ?_⟩
  rw [Int.toNat_natCast]
  have hg'M : M g' := hM g' (List.mem_append.2 (.inl (by simp [Value.ownBlock])))
  have hGM : ∀ q ∈ G, M q ∨ w.heap.size ≤ q := fun q hq => .inl (by
    rcases hG q hq with rfl | h
    · exact hg'M
    · exact hM q (List.mem_append.2 (.inr (by simp [h]))))
  simp only [List.flatten_append, List.flatten_cons, List.nodup_append, List.mem_append] at hn2
  have hl1 : relL r M w' (c1 ++ c' :: c2) (xs.set k x') (f1 ++ f' :: f2) := by
    have key : ∀ (c1 : List (List Value)) (xs : List α) (f1 : List (List Nat)) (k : Nat), relL r M w (c1 ++ c :: c2) xs (f1 ++ f :: f2) → c1.length = k → f1.length = k → (∀ q ∈ G, q ∉ f1.flatten) → (∀ q ∈ G, q ∉ f2.flatten) →
        relL r M w' (c1 ++ c' :: c2) (xs.set k x') (f1 ++ f' :: f2) := by
      intro c1
      induction c1 with
      | nil =>
        intro xs f1 k hl e1 e2 h1 h2
        subst e1
        have : f1 = [] := List.eq_nil_of_length_eq_zero (by simpa using e2)
        subst this
        cases xs with
        | nil => exact hl.elim
        | cons y ys => exact ⟨hr, hl.2.mono hc hGM h2 (fun _ h => .inl h)⟩
      | cons d c1 ih =>
        intro xs f1 k hl e1 e2 h1 h2
        cases f1 with
        | nil => subst e1; simp at e2
        | cons a f1 =>
          cases xs with
          | nil => exact hl.elim
          | cons y ys =>
            subst e1
            exact ⟨r.mono hl.1 hc hGM (fun q hq hq' => h1 q hq (by simp [hq'])) (fun _ h => .inl h), ih ys f1 c1.length hl.2 rfl (by simpa using e2) (fun q hq hq' => h1 q hq (by simp only [List.flatten_cons, List.mem_append]; exact .inr hq')) h2⟩
    refine key c1 xs f1 k hl h1 h2 (fun q hq hq' => ?_) (fun q hq hq' => ?_)
    · rcases hG q hq with rfl | h
      · exact hgn (by simp only [List.flatten_append, List.mem_append]; exact .inl hq')
      · exact hn2.2.2 q hq' q (.inl h) rfl
    · rcases hG q hq with rfl | h
      · exact hgn (by simp only [List.flatten_append, List.flatten_cons, List.mem_append]; exact .inr (.inr hq'))
      · exact hn2.2.1.2.2 q h q hq' rfl
  have hsub : ∀ q ∈ (f1 ++ f' :: f2).flatten, q ∈ (f1 ++ f :: f2).flatten ∨ w.heap.size ≤ q := by
    intro q hq
    simp only [List.flatten_append, List.flatten_cons, List.mem_append] at hq ⊢
    rcases hq with hq | hq | hq
    · exact .inl (.inl hq)
    · rcases hf' q hq with h | h
      · exact .inl (.inr (.inl h))
      · exact .inr h
    · exact .inl (.inr (.inr hq))
  have hlt : ∀ q ∈ (f1 ++ f :: f2).flatten, q < w.heap.size := fun q hq => hl.fpl q hq
  have hlt1 : ∀ q ∈ f1.flatten, q < w.heap.size := fun q hq => hlt q (by simp only [List.flatten_append, List.mem_append]; exact .inl hq)
  have hlt2 : ∀ q ∈ f2.flatten, q < w.heap.size := fun q hq => hlt q (by simp only [List.flatten_append, List.flatten_cons, List.mem_append]; exact .inr (.inr hq))
  have hltg : g' < w.heap.size := (Array.getElem?_eq_some_iff.1 hg).1
  refine ⟨g' :: (f1 ++ f' :: f2).flatten, ⟨_, rfl, _, _, _, rfl, ?_, hl1, rfl, ?_⟩, fun q hq => ?_⟩
  · have hlf := hl1.flat
    rw [List.length_set] at hlf
    refine ⟨by rw [hl1.flat], .inr ⟨g', cap, _, by simp, Nat.zero_le _, hbox', by simpa using hnc, hcm, ?_, ?_⟩⟩
    · have e1 := congrArg List.length hcur
      have e2 := (r.len hr).trans (r.len h4).symm
      simp only [List.length_append, Array.length_toList, List.size_toArray] at e1 ⊢
      omega
    · rw [List.length_set]
      show List.take (xs.length * r.sz) (c1.flatten ++ (c' ++ (c2.flatten ++ _))) = _
      rw [← List.append_assoc c', ← List.append_assoc c1.flatten]
      have hflat : (c1 ++ c' :: c2).flatten = c1.flatten ++ (c' ++ c2.flatten) := by simp
      rw [← hflat]
      exact List.take_left' hlf
  · refine List.nodup_cons.2 ⟨fun hq => ?_, ?_⟩
    · rcases hsub g' hq with h | h
      · exact hgn h
      · omega
    · simp only [List.flatten_append, List.flatten_cons, List.nodup_append, List.mem_append]
      exact ⟨hn2.1, ⟨hnf', hn2.2.1.2.1, fun a ha b hb e => by
        rcases hf' a ha with h | h
        · exact hn2.2.1.2.2 a h b hb e
        · have := hlt2 b hb; omega⟩, fun a ha b hb e => by
        rcases hb with hb | hb
        · rcases hf' b hb with h | h
          · exact hn2.2.2 a ha b (.inl h) e
          · have := hlt1 a ha; omega
        · exact hn2.2.2 a ha b (.inr hb) e⟩
  · rcases List.mem_cons.1 hq with rfl | hq
    · exact .inl (List.mem_append.2 (.inl (by simp [Value.ownBlock])))
    · exact (hsub q hq).imp (fun h => List.mem_append.2 (.inr h)) id

end
end Go.G
