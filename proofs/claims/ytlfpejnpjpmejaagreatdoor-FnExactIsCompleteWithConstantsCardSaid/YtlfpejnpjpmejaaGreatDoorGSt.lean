/- Lemmas on the model and on plain lists: a part of the proof. No conditions. -/
import Derived.Test.YtlfpejnpjpmejaaGreatDoorGHeap
set_option linter.unusedVariables false
namespace Go.G
open Go.RowKit

def Own (N M : Nat → Prop) (w : World) (L : List Nat) : Prop := L.Nodup ∧ (∀ g ∈ L, g < w.heap.size ∧ M g ∧ N g) ∧ (∀ g, w.heap.size ≤ g → M g ∧ N g)

section
variable {N M M' : Nat → Prop} {w w' : World} {L R X X' Y A B C D : List Nat}

theorem Own.start (h : ∀ g, w.heap.size ≤ g → M g) (h' : ∀ g, w.heap.size ≤ g → N g) : Own N M w [] := ⟨List.nodup_nil, (fun _ h => nomatch h), fun g hg => ⟨h g hg, h' g hg⟩⟩
theorem Own.fut (h : Own N M w L) : ∀ g, w.heap.size ≤ g → M g := fun g hg => (h.2.2 g hg).1
theorem Own.ext {G : List Nat} (h : Own N M w L) (hc : Chg G w w') : Own N M w' L :=
  ⟨h.1, fun g hg => ⟨Nat.lt_of_lt_of_le (h.2.1 g hg).1 hc.size, (h.2.1 g hg).2⟩, fun g hg => h.2.2 g (Nat.le_trans hc.size hg)⟩
theorem Own.grow {G : List Nat} (h : Own N M w (X ++ R)) (hc : Chg G w w') (hx : ∀ g ∈ X', g ∈ X ∨ w.heap.size ≤ g) (hn : X'.Nodup) (hl : ∀ g ∈ X', g < w'.heap.size) : Own N M w' (X' ++ R) := by
  obtain ⟨h1, h2, h3⟩ := h;refine ⟨?_, fun g hg => ?_, fun g hg => h3 g (Nat.le_trans hc.size hg)⟩
  · rw [List.nodup_append] at h1 ⊢;refine ⟨hn, h1.2.1, fun a ha b hb e => ?_⟩;subst e;rcases hx a ha with h | h
    · exact h1.2.2 a h a hb rfl
    · have := (h2 a (List.mem_append.2 (.inr hb))).1; omega
  · rcases List.mem_append.1 hg with hg | hg
    · refine ⟨hl g hg, ?_⟩;rcases hx g hg with h | h
      · exact (h2 g (List.mem_append.2 (.inl h))).2
      · exact h3 g h
    · have := h2 g (List.mem_append.2 (.inr hg));exact ⟨Nat.lt_of_lt_of_le this.1 hc.size, this.2⟩
theorem Own.new {G : List Nat} (h : Own N M w R) (hc : Chg G w w') (hx : ∀ g ∈ X', w.heap.size ≤ g) (hn : X'.Nodup) (hl : ∀ g ∈ X', g < w'.heap.size) : Own N M w' (X' ++ R) :=
  Own.grow (X := []) (by simpa using h) hc (fun g hg => .inr (hx g hg)) hn hl
theorem Own.new1 {G : List Nat} {g : Nat} (h : Own N M w R) (hc : Chg G w w') (eg : g = w.heap.size) (hl : g < w'.heap.size) : Own N M w' ([g] ++ R) :=
  h.new hc (fun q hq => by rw [List.mem_singleton.1 hq, eg]; exact Nat.le_refl _) (List.nodup_cons.2 ⟨(fun h => nomatch h), List.nodup_nil⟩) (fun q hq => by rw [List.mem_singleton.1 hq]; exact hl)
theorem Own.eat {G : List Nat} (h : Own N M w (X ++ (Y ++ R))) (hc : Chg G w w') (hx : ∀ g ∈ X', g ∈ X ∨ g ∈ Y ∨ w.heap.size ≤ g) (hn : X'.Nodup) (hl : ∀ g ∈ X', g < w'.heap.size) : Own N M w' (X' ++ R) := by
  rw [← List.append_assoc] at h;refine h.grow hc (fun g hg => ?_) hn hl;rcases hx g hg with h | h | h
  · exact .inl (List.mem_append.2 (.inl h))
  · exact .inl (List.mem_append.2 (.inr h))
  · exact .inr h
theorem Own.drop (h : Own N M w (X ++ R)) : Own N M w R := by
  obtain ⟨h1, h2, h3⟩ := h;rw [List.nodup_append] at h1;exact ⟨h1.2.1, fun g hg => h2 g (List.mem_append.2 (.inr hg)), h3⟩
theorem Own.perm (h : Own N M w L) (hp : L.Perm R) : Own N M w R := ⟨hp.nodup_iff.1 h.1, fun g hg => h.2.1 g (hp.mem_iff.2 hg), h.2.2⟩
theorem Own.fr1 (h : Own N M w (A ++ (X ++ R))) : Own N M w (X ++ (A ++ R)) := h.perm (by rw [← List.append_assoc, ← List.append_assoc]; exact List.perm_append_comm.append_right R)
theorem YM (A X R : List Nat) : (A ++ (X ++ R)).Perm (X ++ (A ++ R)) := by rw [← List.append_assoc, ← List.append_assoc]; exact List.perm_append_comm.append_right R
theorem Own.fr2 (h : Own N M w (A ++ (B ++ (X ++ R)))) : Own N M w (X ++ (A ++ (B ++ R))) := h.perm (((YM B X R).append_left A).trans (YM A X _))
theorem Own.fr3 (h : Own N M w (A ++ (B ++ (C ++ (X ++ R))))) : Own N M w (X ++ (A ++ (B ++ (C ++ R)))) := h.perm (((((YM C X R).append_left B).trans (YM B X _)).append_left A).trans (YM A X _))
theorem Own.fr4 (h : Own N M w (A ++ (B ++ (C ++ (D ++ (X ++ R)))))) : Own N M w (X ++ (A ++ (B ++ (C ++ (D ++ R))))) :=
  h.perm (((((((YM D X R).append_left C).trans (YM C X _)).append_left B).trans (YM B X _)).append_left A).trans (YM A X _))
theorem Own.fr5 {A0 A1 A2 A3 A4 : List Nat} (h : Own N M w (A0 ++ (A1 ++ (A2 ++ (A3 ++ (A4 ++ (X ++ R))))))) : Own N M w (X ++ (A0 ++ (A1 ++ (A2 ++ (A3 ++ (A4 ++ (R))))))) := h.perm (((((((((YM A4 X R).append_left A3).trans (YM A3 X _)).append_left A2).trans (YM A2 X _)).append_left A1).trans (YM A1 X _)).append_left A0).trans (YM A0 X _))
theorem Own.fr6 {A0 A1 A2 A3 A4 A5 : List Nat} (h : Own N M w (A0 ++ (A1 ++ (A2 ++ (A3 ++ (A4 ++ (A5 ++ (X ++ R)))))))) : Own N M w (X ++ (A0 ++ (A1 ++ (A2 ++ (A3 ++ (A4 ++ (A5 ++ (R)))))))) := h.perm (((((((((((YM A5 X R).append_left A4).trans (YM A4 X _)).append_left A3).trans (YM A3 X _)).append_left A2).trans (YM A2 X _)).append_left A1).trans (YM A1 X _)).append_left A0).trans (YM A0 X _))
theorem Own.fr7 {A0 A1 A2 A3 A4 A5 A6 : List Nat} (h : Own N M w (A0 ++ (A1 ++ (A2 ++ (A3 ++ (A4 ++ (A5 ++ (A6 ++ (X ++ R))))))))) : Own N M w (X ++ (A0 ++ (A1 ++ (A2 ++ (A3 ++ (A4 ++ (A5 ++ (A6 ++ (R))))))))) := h.perm (((((((((((((YM A6 X R).append_left A5).trans (YM A5 X _)).append_left A4).trans (YM A4 X _)).append_left A3).trans (YM A3 X _)).append_left A2).trans (YM A2 X _)).append_left A1).trans (YM A1 X _)).append_left A0).trans (YM A0 X _))
theorem Own.apart (h : Own N M w (X ++ R)) : ∀ g ∈ X, g ∉ R := fun g hg hr => by
  have := h.1;rw [List.nodup_append] at this;exact this.2.2 g hg g hr rfl
theorem Own.nd (h : Own N M w (X ++ R)) : X.Nodup := by
  have := h.1;rw [List.nodup_append] at this;exact this.1
theorem Own.inM (h : Own N M w (X ++ R)) : ∀ g ∈ X, M g := fun g hg => (h.2.1 g (List.mem_append.2 (.inl hg))).2.1
theorem Own.inN (h : Own N M w (X ++ R)) : ∀ g ∈ X, N g := fun g hg => (h.2.1 g (List.mem_append.2 (.inl hg))).2.2
theorem Own.lt (h : Own N M w (X ++ R)) : ∀ g ∈ X, g < w.heap.size := fun g hg => (h.2.1 g (List.mem_append.2 (.inl hg))).1

def Less (M : Nat → Prop) (X : List Nat) : Nat → Prop := fun g => M g ∧ g ∉ X
theorem Less.sub : ∀ g, Less M X g → M g ∨ w.heap.size ≤ g := fun _ h => .inl h.1
theorem Less.not : ∀ g ∈ X, ¬ Less M X g := fun _ hg h => h.2 hg
theorem Own.less (h : Own N M w (X ++ R)) : Own N (Less M X) w R := by
  have hd := h.apart;have hR := h.drop;exact ⟨hR.1, fun g hg => ⟨(hR.2.1 g hg).1, ⟨(hR.2.1 g hg).2.1, fun hx => hd g hx hg⟩, (hR.2.1 g hg).2.2⟩, fun g hg => ⟨⟨(h.2.2 g hg).1, fun hx => by have := h.lt g hx; omega⟩, (h.2.2 g hg).2⟩⟩
def Nw (w0 : World) (F : List Nat) : Nat → Prop := fun g => g ∈ F ∨ w0.heap.size ≤ g
theorem Nw.fut {w0 : World} {F : List Nat} : ∀ g, w0.heap.size ≤ g → Nw w0 F g := fun _ h => .inr h
theorem Own.nil (h : Own N M w L) : Own N M w ([] ++ L) := h
theorem zn {g : Nat} (h : g ∈ A) : g ∈ A ++ B := List.mem_append.2 (.inl h)
theorem zd {g : Nat} (h : g ∈ B) : g ∈ A ++ B := List.mem_append.2 (.inr h)
theorem Uj : ∀ g, M g → M g ∨ w.heap.size ≤ g := fun _ h => .inl h
end

section
variable {α : Type} {r : RT α} {M M' : Nat → Prop} {w w' : World} {v : Value} {x : α} {fp G : List Nat} {e : TypeId} {xs : List α}

theorem RT.val.ext (h : r.val M w v x fp) (hc : Chg [] w w') : r.val M w' v x fp := h.mono hc (fun _ h => by cases h) (fun _ h => by cases h) Uj
theorem RT.val.mut (h : r.val M w v x fp) (hc : Chg G w w') (hG : ∀ g ∈ G, M g) (hd : ∀ g ∈ G, g ∉ fp) : r.val M w' v x fp := h.mono hc (fun g hg => .inl (hG g hg)) hd Uj
theorem RT.val.sub (h : r.val M w v x fp) (hM : ∀ g, M' g → M g ∨ w.heap.size ≤ g) : r.val M' w v x fp := h.mono (Chg.refl [] w) (fun _ h => by cases h) (fun _ h => by cases h) hM
theorem RT.val.fpl (h : r.val M w v x fp) : ∀ g ∈ fp, g < w.heap.size := by
  obtain ⟨cs, _, h⟩ := h; exact r.fpl h
theorem zu (h : (RT.os e r).val M w v xs fp) : fp.Nodup := by
  obtain ⟨css, fps, _, _, _, hn⟩ := Yx h; exact hn
theorem zw (h : (RT.os e r).val M w v xs fp) : ∀ g ∈ v.ownBlock.toList, g ∈ fp := by
  obtain ⟨css, fps, _, _, rfl, _⟩ := Yx h;exact fun g hg => zn hg

def RT.Free (r : RT α) : Prop := ∀ {M M' w cs x fp}, r.rel M w cs x fp → r.rel M' w cs x fp
theorem Free.int {k : IntKind} : (RT.int k).Free := fun h => h
theorem Free.bool : RT.bool.Free := fun h => h
theorem Free.str : RT.str.Free := fun h => h
theorem Free.pr {β : Type} {r : RT α} {s : RT β} (h : r.Free) (h' : s.Free) : (RT.pr r s).Free := fun ⟨c, d, f, g, h1, h2, h3, h4⟩ => ⟨c, d, f, g, h1, h2, h h3, h' h4⟩
theorem relL.free (h : r.Free) : ∀ {css : List (List Value)} {xs : List α} {fps : List (List Nat)}, relL r M w css xs fps → relL r M' w css xs fps := by
  intro css
  induction css with
  | nil => intro xs fps h; cases xs <;> cases fps <;> first | trivial | exact h.elim
  | cons c css ih =>
    intro xs fps hh;cases xs with
    | nil => exact hh.elim
    | cons x xs => cases fps with
      | nil => exact hh.elim
      | cons f fps => exact ⟨h hh.1, ih hh.2⟩
theorem Free.os {r : RT α} (h : r.Free) : (RT.os e r).Free := fun ⟨v, css, fps, h1, h2, h3, h4, h5⟩ => ⟨v, css, fps, h1, h2, h3.free h, h4, h5⟩
theorem RT.val.free (h : r.val M w v x fp) (hf : r.Free) : r.val M' w v x fp := by
  obtain ⟨cs, hv, h⟩ := h; exact ⟨cs, hv, hf h⟩
end

section
variable {P : Program} {Q : Exit → Act → World → Prop} {a : Act} {w : World}
def NPost (I : Act → World → Prop) : Exit → Act → World → Prop
  | .normal, a, w => I a w
  | _, _, _ => False
theorem yI {x : Code} {I : Act → World → Prop} (h : x.wp P (NPost I) a w) (k : ∀ a w, I a w → Q .normal a w) : x.wp P Q a w :=
  wp_mono h fun e a w h => by
    cases e
    case normal => exact k a w h
    all_goals exact (h : False).elim
theorem zm {β : Type} {c : Bool} {o o' : Option β} {r : β} (h : (bif c then o else o') = some r) : (c = true ∧ o = some r) ∨ (c = false ∧ o' = some r) := by
  cases c with
  | true => exact .inl ⟨rfl, h⟩
  | false => exact .inr ⟨rfl, h⟩
end
end Go.G
