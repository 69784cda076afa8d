/- Lemmas on the model and on plain lists: a part of the proof. No conditions. -/
import Derived.Test.YtlfpejnpjpmejaaGreatDoorGOps
set_option linter.unusedVariables false
namespace Go.G
open Go.RowKit

structure Chg (G : List Nat) (w w' : World) : Prop where
  os : w'.os = w.os
  tape : w'.tape = w.tape
  output : w'.output = w.output
  size : w.heap.size ≤ w'.heap.size
  block : ∀ k, k < w.heap.size → k ∉ G → w'.heap[k]? = w.heap[k]?

theorem Chg.refl (G : List Nat) (w : World) : Chg G w w := ⟨rfl, rfl, rfl, Nat.le_refl _, fun _ _ _ => rfl⟩
theorem Chg.step {F G : List Nat} {w0 w w' : World} (h : Chg F w0 w) (h' : Chg G w w') (hg : ∀ k ∈ G, k ∈ F ∨ w0.heap.size ≤ k) : Chg F w0 w' :=
  ⟨h'.os.trans h.os, h'.tape.trans h.tape, h'.output.trans h.output, Nat.le_trans h.size h'.size, fun k hk hn =>
    (h'.block k (Nat.lt_of_lt_of_le hk h.size) (fun hkG => by rcases hg k hkG with h1 | h1; exact hn h1; omega)).trans (h.block k hk hn)⟩
theorem Chg.ext {F : List Nat} {w0 w w' : World} (h : Chg F w0 w) (h' : Chg [] w w') : Chg F w0 w' := h.step h' (fun _ hk => by cases hk)
theorem Chg.weaken {F G : List Nat} {w w' : World} (h : Chg F w w') (hs : ∀ k ∈ F, k ∈ G) : Chg G w w' := ⟨h.os, h.tape, h.output, h.size, fun k hk hn => h.block k hk (fun e => hn (hs k e))⟩
theorem Chg.below {w w' : World} (h : Chg [] w w') : Below w.heap.size w w' := ⟨h.os, h.tape, h.output, h.size, fun k hk => h.block k hk (by simp)⟩
theorem Chg.of_grown {w w' : World} {row : Option Nat} (h : w.grownBy w' row) : Chg row.toList w w' :=
  ⟨h.os, h.tape, h.output, h.size, fun k hk hn => h.block k hk (fun e => hn (by rw [← e]; simp))⟩
theorem Chg.drew (w : World) : Chg [] w w.drew := ⟨rfl, rfl, rfl, Nat.le_refl _, fun _ _ _ => rfl⟩
theorem Chg.alloc (w : World) (o : Obj) : Chg [] w (w.alloc o) := ⟨rfl, rfl, rfl, by simp, fun k hk _ => Below.heap_alloc w o k hk⟩
theorem Chg.cell {G : List Nat} {w w' : World} (h : Chg G w w') {a : Addr} {v : Value} (hc : w.cell? a = some v) (hn : a.block ∉ G) : w'.cell? a = some v :=
  (World.cell?_of_block (w := w) (h.block a.block (World.block_lt_of_cell? w a hc) hn)).trans hc

def RowAt (w : World) (g off : Nat) (cs : List Value) : Prop := ∀ k c, cs[k]? = some c → w.cell? ⟨g, off + k, none⟩ = some c

theorem RowAt.chg {G : List Nat} {w w' : World} {g off : Nat} {cs : List Value} (h : RowAt w g off cs) (hc : Chg G w w') (hn : g ∉ G) : RowAt w' g off cs :=
  fun k c hk => hc.cell (h k c hk) hn
theorem RowAt.app_left {w : World} {g off : Nat} {cs ds : List Value} (h : RowAt w g off (cs ++ ds)) : RowAt w g off cs := fun k c hk => h k c (by
  rw [List.getElem?_append_left]; exact hk; exact (List.getElem?_eq_some_iff.1 hk).1)
theorem RowAt.app_right {w : World} {g off : Nat} {cs ds : List Value} (h : RowAt w g off (cs ++ ds)) : RowAt w g (off + cs.length) ds := fun k c hk => by
  have := h (cs.length + k) c (by rw [List.getElem?_append_right (by omega)]; simpa using hk)
  rwa [← Nat.add_assoc] at this

structure RT (α : Type) where
  sz : Nat
  agg : Bool
  rel : (Nat → Prop) → World → List Value → α → List Nat → Prop
  len : ∀ {M w cs x fp}, rel M w cs x fp → cs.length = sz
  one : ∀ {M w cs x fp}, rel M w cs x fp → ∀ c ∈ cs, c.oneCell' = true
  fpl : ∀ {M w cs x fp}, rel M w cs x fp → ∀ g ∈ fp, g < w.heap.size
  mono : ∀ {M M' w w' cs x fp G}, rel M w cs x fp → Chg G w w' → (∀ g ∈ G, M g ∨ w.heap.size ≤ g) → (∀ g ∈ G, g ∉ fp) → (∀ g, M' g → M g ∨ w.heap.size ≤ g) → rel M' w' cs x fp

def mkV (agg : Bool) (cs : List Value) : Value := if agg then .agg cs.toArray else cs.headD undef

def RT.val {α : Type} (r : RT α) (M : Nat → Prop) (w : World) (v : Value) (x : α) (fp : List Nat) : Prop := ∃ cs, v = mkV r.agg cs ∧ r.rel M w cs x fp
def RT.at_ {α : Type} (r : RT α) (M : Nat → Prop) (w : World) (p : Addr) (x : α) (fp : List Nat) : Prop := p.spot = none ∧ ∃ cs, RowAt w p.block p.off cs ∧ r.rel M w cs x fp

theorem RT.val.mono {α : Type} {r : RT α} {M M' : Nat → Prop} {G fp : List Nat} {w w' : World} {v : Value} {x : α} (h : r.val M w v x fp) (hc : Chg G w w') (h1 : ∀ g ∈ G, M g ∨ w.heap.size ≤ g) (h2 : ∀ g ∈ G, g ∉ fp)
    (h3 : ∀ g, M' g → M g ∨ w.heap.size ≤ g) : r.val M' w' v x fp := by
  obtain ⟨cs, hv, hr⟩ := h;exact ⟨cs, hv, r.mono hr hc h1 h2 h3⟩

def RT.int (k : IntKind) : RT Int where
  sz := 1
  agg := false
  rel := fun _ _ cs x fp => cs = [.int k x] ∧ fp = []
  len := by rintro M w cs x fp ⟨rfl, _⟩; rfl
  one := by rintro M w cs x fp ⟨rfl, _⟩ c hc; simp at hc; subst hc; rfl
  fpl := by rintro M w cs x fp ⟨_, rfl⟩ g hg; cases hg
  mono := by rintro M M' w w' cs x fp G h _ _ _ _; exact h

def RT.bool : RT Bool where
  sz := 1
  agg := false
  rel := fun _ _ cs x fp => cs = [.bool x] ∧ fp = []
  len := by rintro M w cs x fp ⟨rfl, _⟩; rfl
  one := by rintro M w cs x fp ⟨rfl, _⟩ c hc; simp at hc; subst hc; rfl
  fpl := by rintro M w cs x fp ⟨_, rfl⟩ g hg; cases hg
  mono := by rintro M M' w w' cs x fp G h _ _ _ _; exact h

def RT.str : RT ByteArray where
  sz := 1
  agg := false
  rel := fun _ _ cs x fp => cs = [.string x] ∧ fp = []
  len := by rintro M w cs x fp ⟨rfl, _⟩; rfl
  one := by rintro M w cs x fp ⟨rfl, _⟩ c hc; simp at hc; subst hc; rfl
  fpl := by rintro M w cs x fp ⟨_, rfl⟩ g hg; cases hg
  mono := by rintro M M' w w' cs x fp G h _ _ _ _; exact h

def RT.pr {α β : Type} (r : RT α) (s : RT β) : RT (α × β) where
  sz := r.sz + s.sz
  agg := true
  rel := fun M w cs x fp => ∃ c d f h, cs = c ++ d ∧ fp = f ++ h ∧ r.rel M w c x.1 f ∧ s.rel M w d x.2 h
  len := by rintro M w cs x fp ⟨c, d, f, h, rfl, rfl, h1, h2⟩; rw [List.length_append, r.len h1, s.len h2]
  one := by
    rintro M w cs x fp ⟨c, d, f, h, rfl, rfl, h1, h2⟩ u hu;rcases List.mem_append.1 hu with hu | hu
    · exact r.one h1 u hu
    · exact s.one h2 u hu
  fpl := by
    rintro M w cs x fp ⟨c, d, f, h, rfl, rfl, h1, h2⟩ u hu;rcases List.mem_append.1 hu with hu | hu
    · exact r.fpl h1 u hu
    · exact s.fpl h2 u hu
  mono := by
    rintro M M' w w' cs x fp G ⟨c, d, f, h, rfl, rfl, h1, h2⟩ hc hG hf hM;exact ⟨c, d, f, h, rfl, rfl, r.mono h1 hc hG (fun g hg e => hf g hg (List.mem_append.2 (.inl e))) hM, s.mono h2 hc hG (fun g hg e => hf g hg (List.mem_append.2 (.inr e))) hM⟩

def relL {α : Type} (r : RT α) (M : Nat → Prop) (w : World) : List (List Value) → List α → List (List Nat) → Prop
  | [], [], [] => True
  | c :: cs, x :: xs, f :: fs => r.rel M w c x f ∧ relL r M w cs xs fs
  | _, _, _ => False

section
variable {α : Type} {r : RT α} {M M' : Nat → Prop} {G : List Nat} {w w' : World}

theorem relL.flat : ∀ {cs : List (List Value)} {xs : List α} {fs : List (List Nat)}, relL r M w cs xs fs → cs.flatten.length = xs.length * r.sz
  | [], [], [], _ => by simp
  | c :: cs, _ :: _, _ :: _, h => by
    have h1 := relL.flat h.2;have h2 := r.len h.1;simp only [List.flatten_cons, List.length_append, List.length_cons, h1, h2, Nat.add_mul, Nat.one_mul];omega

theorem relL.one : ∀ {cs : List (List Value)} {xs : List α} {fs : List (List Nat)}, relL r M w cs xs fs → ∀ c ∈ cs.flatten, c.oneCell' = true
  | [], [], [], _ => by simp
  | c :: cs, _ :: _, _ :: _, h => by
    intro u hu;simp only [List.flatten_cons, List.mem_append] at hu;rcases hu with hu | hu
    · exact r.one h.1 u hu
    · exact relL.one h.2 u hu

theorem relL.fpl : ∀ {cs : List (List Value)} {xs : List α} {fs : List (List Nat)}, relL r M w cs xs fs → ∀ g ∈ fs.flatten, g < w.heap.size
  | [], [], [], _ => by simp
  | _ :: _, _ :: _, _ :: _, h => by
    intro u hu;simp only [List.flatten_cons, List.mem_append] at hu;rcases hu with hu | hu
    · exact r.fpl h.1 u hu
    · exact relL.fpl h.2 u hu

theorem relL.mono : ∀ {cs : List (List Value)} {xs : List α} {fs : List (List Nat)}, relL r M w cs xs fs → Chg G w w' → (∀ g ∈ G, M g ∨ w.heap.size ≤ g) → (∀ g ∈ G, g ∉ fs.flatten) → (∀ g, M' g → M g ∨ w.heap.size ≤ g) → relL r M' w' cs xs fs
  | [], [], [], _, _, _, _, _ => trivial
  | _ :: _, _ :: _, _ :: _, h, hc, hG, hf, hM =>
    ⟨r.mono h.1 hc hG (fun g hg e => hf g hg (by simp [e])) hM, relL.mono h.2 hc hG (fun g hg e => hf g hg (by simp only [List.flatten_cons, List.mem_append]; exact .inr e)) hM⟩

theorem relL.append {cs cs' : List (List Value)} {xs xs' : List α} {fs fs' : List (List Nat)} (h : relL r M w cs xs fs) (h' : relL r M w cs' xs' fs') : relL r M w (cs ++ cs') (xs ++ xs') (fs ++ fs') := by
  induction cs generalizing xs fs with
  | nil =>
    cases xs with
    | nil => cases fs with
      | nil => simpa using h'
      | cons _ _ => exact h.elim
    | cons _ _ => exact h.elim
  | cons c cs ih =>
    cases xs with
    | nil => exact h.elim
    | cons x xs => cases fs with
      | nil => exact h.elim
      | cons f fs => exact ⟨h.1, ih h.2⟩

theorem relL.at {cs : List (List Value)} {xs : List α} {fs : List (List Nat)} {i : Nat} {x : α} (h : relL r M w cs xs fs) (hx : xs[i]? = some x) :
    ∃ c1 c c2 f1 f f2, cs = c1 ++ c :: c2 ∧ fs = f1 ++ f :: f2 ∧ c1.length = i ∧ f1.length = i ∧ c1.flatten.length = i * r.sz ∧ r.rel M w c x f := by
  induction cs generalizing xs fs i with
  | nil =>
    cases xs with
    | nil => simp at hx
    | cons _ _ => exact h.elim
  | cons c cs ih =>
    cases xs with
    | nil => exact h.elim
    | cons y xs => cases fs with
      | nil => exact h.elim
      | cons f fs =>
        cases i with
        | zero =>
          simp at hx; subst hx;exact ⟨[], c, cs, [], f, fs, rfl, rfl, rfl, rfl, by simp, h.1⟩
        | succ i =>
          obtain ⟨c1, c', c2, f1, f', f2, rfl, rfl, h1, h2, h3, h4⟩ := ih (i := i) h.2 (by simpa using hx);refine ⟨c :: c1, c', c2, f :: f1, f', f2, rfl, rfl, by simp [h1], by simp [h2], ?_, h4⟩;have := r.len h.1;simp only [List.flatten_cons, List.length_append, h3, this, Nat.add_mul, Nat.one_mul]; omega

theorem relL.put {c1 c2 : List (List Value)} {c c' : List Value} {xs : List α} {f1 f2 : List (List Nat)} {f f' : List Nat} {i : Nat} {x' : α} (h : relL r M w (c1 ++ c :: c2) xs (f1 ++ f :: f2)) (h1 : c1.length = i)
    (h2 : f1.length = i) (h' : r.rel M w c' x' f') : relL r M w (c1 ++ c' :: c2) (xs.set i x') (f1 ++ f' :: f2) := by
  induction c1 generalizing xs f1 i with
  | nil =>
    subst h1;have : f1 = [] := List.eq_nil_of_length_eq_zero (by simpa using h2);subst this;cases xs with
    | nil => exact h.elim
    | cons x xs => exact ⟨h', h.2⟩
  | cons d c1 ih =>
    cases f1 with
    | nil => subst h1; simp at h2
    | cons e f1 =>
      cases xs with
      | nil => exact h.elim
      | cons x xs =>
        subst h1;exact ⟨h.1, ih (i := c1.length) h.2 rfl (by simpa using h2)⟩

end

def RT.rs {α : Type} (r : RT α) : RT (List α) where
  sz := 1
  agg := false
  rel := fun M w cs xs fp => ∃ a cap css, cs = [.slice a xs.length cap] ∧ fp = [] ∧ (xs.length ≤ cap ∧ cap ≤ maxLen) ∧ relL r M w css xs (List.replicate xs.length []) ∧
    (0 < xs.length → ∃ g off, a = some ⟨g, off, none⟩ ∧ ¬ M g ∧ g < w.heap.size ∧ RowAt w g off css.flatten)
  len := by rintro M w cs x fp ⟨_, _, _, rfl, _⟩; rfl
  one := by rintro M w cs x fp ⟨_, _, _, rfl, _⟩ c hc; simp at hc; subst hc; rfl
  fpl := by rintro M w cs x fp ⟨_, _, _, _, rfl, _⟩ g hg; cases hg
  mono := by
    rintro M M' w w' cs xs fp G ⟨a, cap, css, rfl, rfl, hcap, hl, hr⟩ hc hG _ hM;refine ⟨a, cap, css, rfl, rfl, hcap, hl.mono hc hG (fun g _ => by simp [List.flatten_replicate_nil]) hM, fun h0 => ?_⟩;obtain ⟨g, off, rfl, hg, hlt, hrow⟩ := hr h0;refine ⟨g, off, rfl, fun e => ?_, Nat.lt_of_lt_of_le hlt hc.size, hrow.chg hc fun e => ?_⟩
    · rcases hM g e with h1 | h1
      · exact hg h1
      · omega
    · rcases hG g e with h1 | h1
      · exact hg h1
      · omega

def RT.os {α : Type} (e : TypeId) (r : RT α) : RT (List α) where
  sz := 1
  agg := false
  rel := fun M w cs xs fp => ∃ v css fps, cs = [v] ∧ w.ownsRow 0 e r.sz v xs.length css.flatten ∧ relL r M w css xs fps ∧ fp = v.ownBlock.toList ++ fps.flatten ∧ fp.Nodup
  len := by rintro M w cs x fp ⟨_, _, _, rfl, _⟩; rfl
  one := by
    rintro M w cs x fp ⟨v, _, _, rfl, hown, _⟩ c hc;simp at hc; subst hc;rcases hown.2 with ⟨rfl, _⟩ | ⟨g, cap, cur, rfl, _⟩ <;> rfl
  fpl := by
    rintro M w cs x fp ⟨v, css, fps, rfl, hown, hl, rfl, _⟩ g hg;rcases List.mem_append.1 hg with hg | hg
    · exact (hown.lt g (by simpa using hg)).2
    · exact hl.fpl g hg
  mono := by
    rintro M M' w w' cs xs fp G ⟨v, css, fps, rfl, hown, hl, rfl, hnd⟩ hc hG hf hM;refine ⟨v, css, fps, rfl, ?_, hl.mono hc hG (fun g hg e => hf g hg (List.mem_append.2 (.inr e))) hM, rfl, hnd⟩;refine ⟨hown.1, ?_⟩;rcases hown.2 with hn | ⟨g, cap, cur, rfl, hb, hgg, rest⟩
    · exact .inl hn
    · refine .inr ⟨g, cap, cur, rfl, hb, ?_, rest⟩;rw [hc.block g (Array.getElem?_eq_some_iff.1 hgg).1 (fun e => hf g e (by simp [Value.ownBlock]))];exact hgg

end Go.G
