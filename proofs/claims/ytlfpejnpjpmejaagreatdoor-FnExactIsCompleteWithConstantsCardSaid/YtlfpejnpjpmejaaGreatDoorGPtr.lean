/- Lemmas on the model and on plain lists: a part of the proof. No conditions. -/
import Derived.Test.YtlfpejnpjpmejaaGreatDoorGShort
import Derived.Test.YtlfpejnpjpmejaaGreatDoorGLoop
import Derived.Test.YtlfpejnpjpmejaaGreatDoorGLoop
set_option linter.unusedVariables false
namespace Go.G
open Go.RowKit

def RT.po {α : Type} (T : TypeId) (r : RT α) : RT α where
  sz := 1
  agg := false
  rel := fun M w cs x fp => ∃ g cells fpr, cs = [.pointer (some ⟨g, 0, none⟩)] ∧ fp = g :: fpr ∧ BoxV w g T cells ∧ r.rel M w cells x fpr ∧ fp.Nodup
  len := by rintro M w cs x fp ⟨_, _, _, rfl, _⟩; rfl
  one := by rintro M w cs x fp ⟨_, _, _, rfl, _⟩ c hc; simp at hc; subst hc; rfl
  fpl := by
    rintro M w cs x fp ⟨g, cells, fpr, rfl, rfl, hb, hr, hn⟩ q hq;rcases List.mem_cons.1 hq with rfl | hq
    · exact hb.lt
    · exact r.fpl hr q hq
  mono := by
    rintro M M' w w' cs x fp G ⟨g, cells, fpr, rfl, rfl, hb, hr, hn⟩ hc hG hf hM;exact ⟨g, cells, fpr, rfl, rfl, hb.chg hc (fun h => hf g h (by simp)), r.mono hr hc hG (fun q hq e => hf q hq (by simp [e])) hM, hn⟩
def RT.rp {α : Type} (T : TypeId) (r : RT α) : RT α where
  sz := 1
  agg := false
  rel := fun M w cs x fp => ∃ g cells, cs = [.pointer (some ⟨g, 0, none⟩)] ∧ fp = [] ∧ ¬ M g ∧ BoxV w g T cells ∧ r.rel M w cells x []
  len := by rintro M w cs x fp ⟨_, _, rfl, _⟩; rfl
  one := by rintro M w cs x fp ⟨_, _, rfl, _⟩ c hc; simp at hc; subst hc; rfl
  fpl := by rintro M w cs x fp ⟨_, _, _, rfl, _⟩ g hg; cases hg
  mono := by
    rintro M M' w w' cs x fp G ⟨g, cells, rfl, rfl, hg, hb, hr⟩ hc hG hf hM;refine ⟨g, cells, rfl, rfl, fun h => ?_, hb.chg hc fun h => ?_, r.mono hr hc hG (fun _ _ h => nomatch h) hM⟩
    · rcases hM g h with h | h
      · exact hg h
      · have := hb.lt; omega
    · rcases hG g h with h | h
      · exact hg h
      · have := hb.lt; omega
def RT.op {α : Type} (T : TypeId) (r : RT α) : RT (Option α) where
  sz := 1
  agg := false
  rel := fun M w cs x fp => match x with
    | none => cs = [.pointer none] ∧ fp = []
    | some y => (RT.po T r).rel M w cs y fp
  len := by
    intro M w cs x fp h;cases x with
    | none => rw [h.1]; rfl
    | some y => exact (RT.po T r).len h
  one := by
    intro M w cs x fp h;cases x with
    | none => intro c hc; rw [h.1] at hc; simp at hc; subst hc; rfl
    | some y => exact (RT.po T r).one h
  fpl := by
    intro M w cs x fp h;cases x with
    | none => intro g hg; rw [h.2] at hg; cases hg
    | some y => exact (RT.po T r).fpl h
  mono := by
    intro M M' w w' cs x fp G h hc hG hf hM;cases x with
    | none => exact h
    | some y => exact (RT.po T r).mono h hc hG hf hM
def RBox (M : Nat → Prop) (w : World) (g : Nat) (T : TypeId) (cs : List Value) : Prop := BoxV w g T cs ∧ ¬ M g

section
variable {α : Type} {r r' : RT α} {M M' : Nat → Prop} {w w' : World} {v : Value} {x : α} {fp : List Nat} {g : Nat} {T : TypeId} {cs : List Value} {G R X : List Nat}

theorem RBox.ext (h : RBox M w g T cs) (hc : Chg [] w w') : RBox M w' g T cs := ⟨h.1.chg hc (fun h => nomatch h), h.2⟩
theorem RBox.mut (h : RBox M w g T cs) (hc : Chg G w w') (hG : ∀ q ∈ G, M q) : RBox M w' g T cs := ⟨h.1.chg hc (fun hq => h.2 (hG g hq)), h.2⟩
theorem RBox.sub (h : RBox M w g T cs) (hM : ∀ q, M' q → M q ∨ w.heap.size ≤ q) : RBox M' w g T cs := ⟨h.1, fun hq => (hM g hq).elim h.2 (fun hl => by have := h.1.lt; omega)⟩

theorem po_open (h : (RT.po T r).val M w (.pointer (some ⟨g, 0, none⟩)) x fp) : ∃ cells fpr, fp = g :: fpr ∧ BoxV w g T cells ∧ r.rel M w cells x fpr := by
  obtain ⟨cs, hv, g', cells, fpr, rfl, h2, h3, h4, _⟩ := h;have : g = g' := by simpa [mkV, RT.po] using hv
  subst this;exact ⟨cells, fpr, h2, h3, h4⟩
theorem zbx {fpr : List Nat} (hb : BoxV w g T cs) (hr : r.rel M w cs x fpr) (hn : (g :: fpr).Nodup) : (RT.po T r).val M w (.pointer (some ⟨g, 0, none⟩)) x (g :: fpr) :=
  ⟨_, rfl, g, cs, fpr, rfl, rfl, hb, hr, hn⟩
theorem zbD (h : (RT.po T r).val M w v x fp) : (RT.op T r).val M w v (some x) fp := h
theorem op_get {o : Option α} (h : (RT.op T r).val M w v o fp) (ho : o = some x) : ∃ g, v = .pointer (some ⟨g, 0, none⟩) ∧ (RT.po T r).val M w (.pointer (some ⟨g, 0, none⟩)) x fp := by
  subst ho;obtain ⟨cs, rfl, h⟩ := h;obtain ⟨g, cells, fpr, rfl, h⟩ := h;exact ⟨g, rfl, _, rfl, g, cells, fpr, rfl, h⟩
theorem Frz.po (h : Frz r r') : Frz (RT.po T r) (RT.rp T r') := by
  refine ⟨rfl, rfl, fun {M M' w cs x fp} ⟨g, cells, fpr, h1, h2, h3, h4, h5⟩ hM hd => ⟨g, cells, h1, rfl, hd g (by simp [h2]), h3, h.2.2 h4 hM (fun q hq => hd q (by simp [h2, hq]))⟩⟩
theorem Free.po (h : r.Free) : (RT.po T r).Free := fun ⟨g, cells, fpr, h1, h2, h3, h4, h5⟩ => ⟨g, cells, fpr, h1, h2, h3, h h4, h5⟩
theorem Free.op (h : r.Free) : (RT.op T r).Free := by
  intro M M' w cs x fp hh;cases x with
  | none => exact hh
  | some y => exact Free.po h hh
theorem zdt {β : Type} {s : RT β} {e : TypeId} {xs : List β} (h : (RT.os e s).rel M w cs xs fp) : ∃ a n c, cs = [.slice a n c] ∧ (RT.os e s).val M w (.slice a n c) xs fp := by
  obtain ⟨v, css, fps, rfl, h1, h2⟩ := h;have h3 : (RT.os e s).val M w v xs fp := ⟨[v], rfl, v, css, fps, rfl, h1, h2⟩;obtain ⟨a, n, c, rfl⟩ := zch h3;exact ⟨a, n, c, rfl, h3⟩
theorem rs_rel' {β : Type} {s : RT β} {xs : List β} (h : (RT.rs s).rel M w cs xs fp) : ∃ a n c, cs = [.slice a n c] ∧ fp = [] ∧ (RT.rs s).val M w (.slice a n c) xs [] := by
  have hf : fp = [] := by obtain ⟨_, _, _, _, h, _⟩ := h; exact h
  subst hf;obtain ⟨a, n, c, h1, h2⟩ := xb h;exact ⟨a, n, c, h1, rfl, h2⟩
end

section
variable {β : Type} {enc : β → Value} {M : Nat → Prop} {w : World} {cs : List Value} {m : List (ByteArray × β)} {fp : List Nat}
theorem mo_rel' (h : (RT.mo enc).rel M w cs m fp) : ∃ b, cs = [.map (some b)] ∧ (RT.mo enc).val M w (.map (some b)) m fp := by
  obtain ⟨b, es, clock, rfl, h⟩ := h;exact ⟨b, rfl, _, rfl, b, es, clock, rfl, h⟩
end

section
variable {α : Type} {r r' : RT α} {M M' N : Nat → Prop} {w w' w0 : World} {v : Value} {x : α} {xs : List α} {fp F R L X : List Nat} {e : TypeId}
def KeepsF (w0 : World) (F : List Nat) (M M' : Nat → Prop) : Prop := (∀ g, M g → M' g ∨ w0.heap.size ≤ g ∨ g ∈ F) ∧ (∀ g, M' g → M g)
theorem KeepsF.refl : KeepsF w0 F M M := ⟨fun _ h => .inl h, fun _ h => h⟩
theorem KeepsF.trans {A B C : Nat → Prop} (h : KeepsF w0 F A B) (h' : KeepsF w0 F B C) : KeepsF w0 F A C := ⟨fun g hg => (h.1 g hg).elim (h'.1 g) .inr, fun g hg => h.2 g (h'.2 g hg)⟩
theorem KeepsF.less (ho : Own (Nw w0 F) M w (fp ++ R)) : KeepsF w0 F M (Less M fp) := ⟨fun g hg => by
  by_cases h : g ∈ fp
  · exact .inr (ho.inN g h).symm
  · exact .inl ⟨hg, h⟩, fun _ h => h.1⟩
def PastL (M : Nat → Prop) (F : List Nat) (w w' : World) (L : List Nat) : Nat → Prop := fun g => M g ∧ ((g < w.heap.size ∧ g ∉ F) ∨ w'.heap.size ≤ g ∨ g ∈ L)
theorem PastL.sub : ∀ g, PastL M F w w' L g → M g := fun _ h => h.1
theorem Own.pastL (h : Own N M w (F ++ R)) (hc : Chg F w w') (h' : Own (Nw w F) (fun _ => True) w' L) : Own N (PastL M F w w' L) w' (L ++ R) := by
  have h2 := Own.join h hc h';have ha := h.apart;refine ⟨h2.1, fun g hg => ⟨(h2.2.1 g hg).1, ⟨(h2.2.1 g hg).2.1, ?_⟩, (h2.2.1 g hg).2.2⟩, fun g hg => ⟨⟨(h2.2.2 g hg).1, .inr (.inl hg)⟩, (h2.2.2 g hg).2⟩⟩;rcases List.mem_append.1 hg with hg | hg
  · exact .inr (.inr hg)
  · exact .inl ⟨(h.2.1 g (List.mem_append.2 (.inr hg))).1, fun hq => ha g hq hg⟩
theorem KeepsF.pastL {F' : List Nat} (hs : w0.heap.size ≤ w.heap.size) (hF : ∀ g ∈ F', g ∈ F ∨ w0.heap.size ≤ g) : KeepsF w0 F M (PastL M F' w w' L) := ⟨fun g hg => by
  by_cases h1 : g < w.heap.size
  · by_cases h2 : g ∈ F'
    · exact .inr ((hF g h2).symm)
    · exact .inl ⟨hg, .inl ⟨h1, h2⟩⟩
  · exact .inr (.inl (by omega)), fun _ h => h.1⟩
theorem KeepsF.out (hk : KeepsF w0 F M M') (hL : ∀ g ∈ L, M' g) (h : r.val M' w v x fp) : r.val (PastL M F w0 w L) w v x fp :=
  h.sub (fun g hg => by
    rcases hg.2 with h1 | h1 | h1
    · rcases hk.1 g hg.1 with h2 | h2 | h2
      · exact .inl h2
      · omega
      · exact absurd h2 h1.2
    · exact .inr h1
    · exact .inl (hL g h1))
theorem Own.allM (h : Own N M w L) : ∀ g ∈ L, M g := fun g hg => (h.2.1 g hg).2.1
theorem XI (hF : Frz r r') (h : r.val M w v x fp) (ho : Own (Nw w0 F) M w (fp ++ R)) :
    ∃ M', M' = Less M fp ∧ (∀ g, M' g → M g ∨ w.heap.size ≤ g) ∧ KeepsF w0 F M M' ∧ Own (Nw w0 F) M' w R ∧ r'.val M' w v x [] :=
  ⟨_, rfl, Less.sub, KeepsF.less ho, ho.less, hF.val h Less.sub Less.not⟩
theorem zaQ (hF : Frz r r') (h : (RT.os e r).val M w v xs fp) (ho : Own (Nw w0 F) M w (fp ++ R)) :
    ∃ M' f', (∀ g, M' g → M g ∨ w.heap.size ≤ g) ∧ KeepsF w0 F M M' ∧ Own (Nw w0 F) M' w (f' ++ R) ∧ (RT.os e r').val M' w v xs f' := by
  obtain ⟨css, fps, hown, hl, rfl, hnd⟩ := Yx h;have hn := hnd;rw [List.nodup_append] at hn;have ho2 : Own (Nw w0 F) M w (fps.flatten ++ (v.ownBlock.toList ++ R)) := ho.perm (by rw [← List.append_assoc]; exact List.perm_append_comm.append_right R);have e0 : (List.replicate xs.length ([] : List Nat)).flatten = [] := by simp
  refine ⟨Less M fps.flatten, v.ownBlock.toList, Less.sub, KeepsF.less ho2, ho2.less, ⟨_, rfl, v, css, List.replicate xs.length [], rfl, ?_, hl.frz hF Less.sub Less.not, by rw [e0, List.append_nil], hn.1⟩⟩;rw [hF.1]; exact hown
end
end Go.G

namespace Go.G
open Go.RowKit
section
variable {P : Program} {ρ : Operand → Value} {w w' : World} {d : Option Tmp} {ty : TypeId} {pos : String} {af : Array Edge} {g : Option (Nat × Bool)} {x y : Operand} {t : TypeId} {u v : Value}
theorem YF {p : Addr} (hx : ρ x = .pointer (some p)) : Yv P ρ ⟨d, .nilCheck x, ty, pos, af, g⟩ w (.pointer (some p)) w := by
  unfold Yv execOp;simp [hx]
end
end Go.G

namespace Go.G
open Go.RowKit
section
variable {M N : Nat → Prop} {w w' w0 : World} {g : Nat} {T : TypeId} {cs : List Value} {F R L : List Nat}
theorem KeepsF.past (h : w0.heap.size ≤ w.heap.size) : KeepsF w0 F M (Past M w w') := ⟨fun g hg => by
  by_cases h1 : g < w.heap.size
  · exact .inl ⟨hg, .inl h1⟩
  · exact .inr (.inl (by omega)), fun _ h => h.1⟩
theorem Keeps.pastL (hs : w0.heap.size ≤ w.heap.size) (hF : ∀ g ∈ F, w0.heap.size ≤ g) : Keeps w0 M (PastL M F w w' L) := fun g hg => by
  by_cases h1 : g < w.heap.size
  · by_cases h2 : g ∈ F
    · exact .inr (hF g h2)
    · exact .inl ⟨hg, .inl ⟨h1, h2⟩⟩
  · exact .inr (by omega)
theorem Uk (hb : BoxV w g T cs) (ho : Own (Nw w0 F) M w ([g] ++ R)) : ∃ M', (∀ q, M' q → M q ∨ w.heap.size ≤ q) ∧ KeepsF w0 F M M' ∧ Own (Nw w0 F) M' w R ∧ RBox M' w g T cs :=
  ⟨_, Less.sub, KeepsF.less ho, ho.less, hb, Less.not g (by simp)⟩
end
end Go.G

namespace Go.G
open Go.RowKit
section
variable {P : Program} {α : Type} {r : RT α} {M : Nat → Prop} {w : World} {a : Option Addr} {n c : Nat} {xs ys zs : List α} {o : Option (List α)} {fp : List Nat} {t e : TypeId} {v : Value}
theorem app_rs_nn {z : List Value} {s : Value} {p : Addr} (hT : RowT P t e r.sz z) (hy : app xs ys = some zs) (h : (RT.os e r).val M w (.slice (some p) n c) xs fp) (h' : (RT.rs r).val M w s ys []) (hown : ∀ g ∈ fp, M g) :
    ∃ a n' c' w' fp', (∀ ty, (Builtin.append_ #[t, t] ty #[.slice (some p) n c, s]).run P w = .ok (.slice a n' c') w') ∧ Chg (Value.slice (some p) n c).ownBlock.toList w w' ∧ (∀ g ∈ fp', g ∈ fp ∨ w.heap.size ≤ g) ∧ (RT.os e r).val M w' (.slice a n' c') zs fp' ∧ a.isNone = false := by
  by_cases h0 : ys = []
  · subst h0;obtain ⟨hlen, rfl⟩ := VH hy;obtain ⟨i, zv, hi, hz, hzc, hsz, hby⟩ := hT.inf;obtain ⟨a', cap, css, rfl, _, _, hl, hr⟩ := Wg h';refine ⟨some p, n, c, w, fp, fun ty => Xy hT.und ⟨i, hi, hsz⟩ ty h a' cap, Chg.refl _ _, fun g hg => .inl hg, ?_, rfl⟩;rw [List.append_nil]; exact h
  · obtain ⟨a', n', c', w', fp', h1, h2, h3, h4⟩ := yO hT hy h h' hown;refine ⟨a', n', c', w', fp', h1, h2, h3, h4, ?_⟩;obtain ⟨hlen, rfl⟩ := VH hy;have hne : nne (xs ++ ys) = some () := by
      unfold nne;rw [if_neg];simp [h0]
    rw [os_nn h4 hne];simp [h0]
end
theorem at_ext {α : Type} {r : RT α} {M : Nat → Prop} {w w' : World} {p : Addr} {x : α} {fp : List Nat} (h : r.at_ M w p x fp) (hc : Chg [] w w') : r.at_ M w' p x fp := by
  obtain ⟨h1, cs, h2, h3⟩ := h;exact ⟨h1, cs, h2.chg hc (fun h => nomatch h), r.mono h3 hc (fun _ h => by cases h) (fun _ h => by cases h) Uj⟩
end Go.G
