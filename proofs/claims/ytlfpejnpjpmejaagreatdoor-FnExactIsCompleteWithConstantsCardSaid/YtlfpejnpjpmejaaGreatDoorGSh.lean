/- Lemmas on the model and on plain lists: a part of the proof. No conditions. -/
import Derived.Test.YtlfpejnpjpmejaaGreatDoorGY2
set_option linter.unusedVariables false
namespace Go.G
open Go.RowKit

section
variable {P : Program} {α β : Type} {r r' : RT α} {r2 : RT β} {N M M' : Nat → Prop} {w w' : World} {v u : Value} {xs : List α} {x : α} {fp f G R : List Nat} {p : Addr} {e e2 : TypeId} {g g2 : Nat} {i : Int}

theorem vg (hF : Frz r r') (ha : r.at_ M w p x f) (hf : ∀ q ∈ f, q ∈ fp) : r'.at_ (Less M fp) w p x [] := by
  obtain ⟨hp, cs, hrow, hr⟩ := ha;exact ⟨hp, cs, hrow, hF.2.2 hr Less.sub (fun g hg h => h.2 (hf g hg))⟩
def RT.Rd (r : RT α) : Prop := ∀ {M w cs x fp}, r.rel M w cs x fp → r.rel M w cs x []
theorem Rd.int {k : IntKind} : (RT.int k).Rd := fun h => ⟨h.1, rfl⟩
theorem Rd.bool : RT.bool.Rd := fun h => ⟨h.1, rfl⟩
theorem Rd.str : RT.str.Rd := fun h => ⟨h.1, rfl⟩
theorem Rd.rs : (RT.rs r).Rd := fun ⟨a, cap, css, h1, _, h2⟩ => ⟨a, cap, css, h1, rfl, h2⟩
theorem Rd.pr {s : RT β} (h : r.Rd) (h' : s.Rd) : (RT.pr r s).Rd := fun ⟨c, d, _, _, h1, _, h3, h4⟩ => ⟨c, d, [], [], h1, rfl, h h3, h' h4⟩
theorem vV (hR : r.Rd) (ha : r.at_ M w p x f) : r.at_ M w p x [] := by
  obtain ⟨hp, cs, hrow, hr⟩ := ha;exact ⟨hp, cs, hrow, hR hr⟩

theorem ve {P : Program} {t : TypeId} (ha : AggT P t false) (hs : SzT P t 1) (hag : r.agg = false) (hsz : r.sz = 1) (h : r.at_ M w p x fp) : ∃ v, wG P t w p v ∧ RowAt w p.block p.off [v] ∧ r.val M w v x fp := by
  obtain ⟨hp, cs, hrow, hr⟩ := h;have hl := (r.len hr).trans hsz
  match cs, hl with
  | [c], _ =>
    refine ⟨c, ?_, hrow, [c], ?_, hr⟩
    · have := Xh (cs := [c]) ha hs hp hrow rfl (fun _ => rfl);simpa [mkV] using this
    · simp [mkV, hag]

def Keeps (w0 : World) (M M' : Nat → Prop) : Prop := ∀ g, M g → M' g ∨ w0.heap.size ≤ g
theorem Keeps.refl {w0 : World} : Keeps w0 M M := fun _ h => .inl h
theorem Keeps.trans {w0 : World} {A B C : Nat → Prop} (h : Keeps w0 A B) (h' : Keeps w0 B C) : Keeps w0 A C := fun g hg => (h g hg).elim (h' g) .inr
theorem Keeps.less {w0 : World} (ho : Own (Nw w0 []) M w (fp ++ R)) : Keeps w0 M (Less M fp) := fun g hg => by
  by_cases h : g ∈ fp
  · exact .inr ((ho.inN g h).resolve_left (fun h => nomatch h))
  · exact .inl ⟨hg, h⟩
def Past (M : Nat → Prop) (w w' : World) : Nat → Prop := fun g => M g ∧ (g < w.heap.size ∨ w'.heap.size ≤ g)
theorem Past.sub : ∀ g, Past M w w' g → M g := fun _ h => h.1
theorem Own.past (h : Own N M w R) (hc : Chg G w w') : Own N (Past M w w') w' R :=
  ⟨h.1, fun g hg => ⟨Nat.lt_of_lt_of_le (h.2.1 g hg).1 hc.size, ⟨(h.2.1 g hg).2.1, .inl (h.2.1 g hg).1⟩, (h.2.1 g hg).2.2⟩, fun g hg => ⟨⟨(h.2.2 g (Nat.le_trans hc.size hg)).1, .inr hg⟩, (h.2.2 g (Nat.le_trans hc.size hg)).2⟩⟩
theorem Keeps.past {w0 : World} (h : w0.heap.size ≤ w.heap.size) : Keeps w0 M (Past M w w') := fun g hg => by
  by_cases h1 : g < w.heap.size
  · exact .inl ⟨hg, .inl h1⟩
  · exact .inr (by omega)
theorem Keeps.out {w0 : World} {v : Value} (hk : Keeps w0 M M') (h : r.val M' w v x fp) : r.val (Past M w0 w) w v x fp :=
  h.sub (fun g hg => by
    rcases hg.2 with h1 | h1
    · rcases hk g hg.1 with h2 | h2
      · exact .inl h2
      · omega
    · exact .inr h1)

theorem Zm {w0 : World} {r' : RT (List α)} (hF : Frz (RT.os e r) r') (h : (RT.os e r).val M w v xs fp) (ho : Own (Nw w0 []) M w (fp ++ R)) :
    ∃ M', M' = Less M fp ∧ (∀ g, M' g → M g ∨ w.heap.size ≤ g) ∧ Keeps w0 M M' ∧ Own (Nw w0 []) M' w R ∧ r'.val M' w v xs [] :=
  ⟨_, rfl, Less.sub, Keeps.less ho, ho.less, hF.val h Less.sub Less.not⟩
theorem Zj {w0 : World} (hF : Frz r r') (h : (RT.os e r).val M w v xs fp) (ho : Own (Nw w0 []) M w (fp ++ R)) :
    ∃ M' f', (∀ g, M' g → M g ∨ w.heap.size ≤ g) ∧ Keeps w0 M M' ∧ Own (Nw w0 []) M' w (f' ++ R) ∧ (RT.os e r').val M' w v xs f' := by
  obtain ⟨css, fps, hown, hl, rfl, hnd⟩ := Yx h;have hn := hnd;rw [List.nodup_append] at hn;have ho2 : Own (Nw w0 []) M w (fps.flatten ++ (v.ownBlock.toList ++ R)) := ho.perm (by rw [← List.append_assoc]; exact List.perm_append_comm.append_right R);have e0 : (List.replicate xs.length ([] : List Nat)).flatten = [] := by simp
  refine ⟨Less M fps.flatten, v.ownBlock.toList, Less.sub, Keeps.less ho2, ho2.less, ⟨_, rfl, v, css, List.replicate xs.length [], rfl, ?_, hl.frz hF Less.sub Less.not, by rw [e0, List.append_nil], hn.1⟩⟩;rw [hF.1]; exact hown
end

section
variable {P : Program} {ops : Array Oper} {Q : Exit → Act → World → Prop} {n : Nat} {σ : Nat → Value} {w : World}
theorem vt {j t : Nat} (hj : (ops[j]?).bind (·.dst) = some t) (h : ev n σ (.tmp t) = undef) : yielded ops (fr n σ).tmps j = none := by
  unfold yielded;rw [hj];simp only [ev] at h;simp only [Option.bind_some, UP];cases hb : Nat.blt t n with
  | false => rfl
  | true => rw [hb] at h; simp only [cond_true] at h ⊢; rw [h]; rfl
theorem zbm {d : Nat} {op : Op} {ty : TypeId} {pos : String} {af : Array Edge} {j tg : Nat} {want : Bool} {rest : List Oper}
    (hj : (ops[j]?).bind (·.dst) = some tg) (hg : ev n σ (.tmp tg) = undef) (k : WL P ops Q rest (fr n (upd σ d undef)) w) :
    WL P ops Q (⟨some d, op, ty, pos, af, some (j, want)⟩ :: rest) (fr n σ) w := by
  refine ⟨wpList_step fun K hK => ?_⟩;rw [if_neg (by simp [Region.wanted, vt hj hg])];rw [YP];exact hK _ _ k.out
theorem wa {T : List Nat} {S : World → Prop} {fuel : Nat} {tl : Bool} {listed : Array Bool} {d : Nat} {op : Op} {ty : TypeId} {pos : String} {af : Array Edge} (i : Nat) {j tg : Nat} {want : Bool} (hi : ops[i]? = some ⟨some d, op, ty, pos, af, some (j, want)⟩) (hc : chkF ops T listed i false = true) (hj : (ops[j]?).bind (·.dst) = some tg) (hg : ev n σ (.tmp tg) = undef) (hS : tl = false → S w)
    (h : X P ops Q S T fuel tl (listed.setIfInBounds i true) (fr n (upd σ d undef)) w) : X P ops Q S T (fuel + 1) tl listed (fr n σ) w :=
  vj hi hc (.inr ⟨by simp [Region.wanted, vt hj hg], rfl⟩) (fun h => by cases h) hS (by rw [YP]; exact h)
end

section
variable {P : Program} {ops : Array Oper} {Q : Exit → Act → World → Prop} {w : World} {T : List Nat} {S : World → Prop} {fuel : Nat} {tl : Bool} {listed : Array Bool}
def chkL (ops : Array Oper) (listed : Array Bool) (L : List Nat) : Bool := Region.ready .any ops listed == L
theorem x_many {a : Act} (L : List Nat) (hc : chkL ops listed L = true) (hne : L ≠ [])
    (h : ∀ i ∈ L, Closed ops listed → Closed ops (listed.setIfInBounds i true) → wpOp P ops (NP Q) i (fun a' w' => ((tl || T.contains i) = false → S w') ∧ wM P ops (NP Q) S T fuel (tl || T.contains i) (listed.setIfInBounds i true) a' w') a w) :
    X P ops Q S T (fuel + 1) tl listed a w := by
  intro hcl;have hr : Region.ready .any ops listed = L := by simpa [chkL] using hc
  refine ⟨fun h => absurd (hr.symm.trans h) hne, fun k hk => ?_⟩;have hk' := hk;rw [hr] at hk';exact h k hk' hcl (hcl.set hk)
theorem all3 {p : Nat → Prop} {i j k : Nat} (h1 : p i) (h2 : p j) (h3 : p k) : ∀ q ∈ [i, j, k], p q := by
  intro q hq;simp only [List.mem_cons, List.not_mem_nil, or_false] at hq;rcases hq with rfl | rfl | rfl <;> assumption
end

section
variable {N M M' : Nat → Prop} {w w' : World} {F R L' : List Nat}
theorem Own.lend (h : Own N M w (F ++ R)) : Own (Nw w F) M w F :=
  ⟨h.nd, fun g hg => ⟨h.lt g hg, h.inM g hg, .inl hg⟩, fun g hg => ⟨(h.2.2 g hg).1, .inr hg⟩⟩
theorem Own.top (h : Own N M w F) : Own N (fun _ => True) w F := ⟨h.1, fun g hg => ⟨(h.2.1 g hg).1, trivial, (h.2.1 g hg).2.2⟩, fun g hg => ⟨trivial, (h.2.2 g hg).2⟩⟩
theorem Own.join (h : Own N M w (F ++ R)) (hc : Chg F w w') (h' : Own (Nw w F) M' w' L') : Own N M w' (L' ++ R) :=
  h.grow hc (fun g hg => (h'.2.1 g hg).2.2) h'.1 (fun g hg => (h'.2.1 g hg).1)
theorem Own.join0 (h : Own N M w R) (hc : Chg [] w w') (h' : Own (Nw w []) M' w' L') : Own N M w' (L' ++ R) := Own.join (F := []) h hc h'
end

section
variable {P : Program} {ops : Array Oper} {Q : Exit → Act → World → Prop} {w : World} {T : List Nat} {S : World → Prop} {fuel n d i : Nat} {tl : Bool} {listed : Array Bool} {σ : Nat → Value} {op : Op} {ty : TypeId} {pos : String} {af : Array Edge}
end
end Go.G
