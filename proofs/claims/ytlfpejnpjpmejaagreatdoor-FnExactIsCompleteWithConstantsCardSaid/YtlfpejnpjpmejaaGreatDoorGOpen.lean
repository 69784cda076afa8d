/- Lemmas on the model and on plain lists: a part of the proof. No conditions. -/
import Derived.Test.YtlfpejnpjpmejaaGreatDoorGMem
import Derived.WalkKit
import Derived.ProofKit
import Derived.OpenShut
import Derived.ShutString
import Derived.ChangeOld
import Derived.Below
set_option linter.unusedVariables false
namespace Go.G
open Go.RowKit Go.WideShapes Go.ChangeShapes

def wQ (P : Program) (t : TypeId) {α : Type} (r : RT α) (ok : α → Prop) : Prop :=
  P.cellsOf t = r.sz ∧ ∀ (H : Type) (enc : TypeId × Value → H) (w : World) (M : Nat → Prop) (spare : Nat → Bool) (held : Bool) (fuel : Nat) (cs : List Value) (d : DataW H × List MemPlace), (∀ g, M g → w.heap.size ≤ g) →
    DataW.trod enc P w 0 spare held fuel t cs = some d → ∃ x, r.rel M w cs x [] ∧ ok x

theorem opens_int {P : Program} {t : TypeId} {k : IntKind} (ht : P.underlying t = some (.int k)) (hc : P.cellsOf t = 1) : wQ P t (RT.int k) (fun n => (Lit.int k n).wf = true) := by
  refine ⟨hc, fun H enc w M spare held fuel cs d _ h => ?_⟩;obtain ⟨n, rfl, _, hw⟩ := DataW.trod_int ht h;exact ⟨n, ⟨rfl, rfl⟩, hw⟩
theorem cells_of {w : World} {base : Nat} {a : Addr} {n : Nat} {cs : List Value} (h : w.cells? base a n = some cs) (hn : 0 < n) : cs.length = n ∧ a.spot = none ∧ a.block < w.heap.size ∧ RowAt w a.block a.off cs := by
  obtain ⟨_, hl, hc⟩ := World.cells?_some h;have h0 := hc 0 hn;rw [List.getElem?_eq_getElem (by omega)] at h0;have hsp : a.spot = none := by simpa [Addr.add] using World.cell?_spot h0
  obtain ⟨g, off, sp⟩ := a;simp only at hsp; subst hsp;refine ⟨hl, rfl, by simpa [Addr.add] using World.block_lt_of_cell? w _ h0, fun k c hk => ?_⟩;have := hc k (by have := (List.getElem?_eq_some_iff.1 hk).1; omega);rw [Addr.add_lit, hk] at this;exact this

theorem zcW {w : World} {g off : Nat} {c cs : List Value} (h : RowAt w g off c) (h' : RowAt w g (off + c.length) cs) : RowAt w g off (c ++ cs) := by
  intro k u hk;by_cases hlt : k < c.length
  · rw [List.getElem?_append_left hlt] at hk; exact h k u hk
  · rw [List.getElem?_append_right (by omega)] at hk;have := h' (k - c.length) u hk
    rwa [show off + c.length + (k - c.length) = off + k by omega] at this

theorem Uz {P : Program} {e : TypeId} {α : Type} {r : RT α} {ok : α → Prop} {H : Type} {enc : TypeId × Value → H} {w : World} {M : Nat → Prop} {spare : Nat → Bool} {held : Bool} {fuel : Nat}
    (he : wQ P e r ok) (hz : 0 < r.sz) (hM : ∀ g, M g → w.heap.size ≤ g) (g : Nat) : ∀ (n off : Nat) (sp : Option Nat), (∀ i, i < n → ∃ d, (w.cells? 0 ((⟨g, off, sp⟩ : Addr).add (i * P.cellsOf e)) (P.cellsOf e)).bind (DataW.trod enc P w 0 spare held fuel e) = some d) →
      ∃ (css : List (List Value)) (xs : List α), xs.length = n ∧ relL r M w css xs (List.replicate xs.length []) ∧ RowAt w g off css.flatten ∧ (∀ x ∈ xs, ok x) ∧ (0 < n → sp = none ∧ g < w.heap.size)
  | 0, off, sp, _ => ⟨[], [], rfl, trivial, fun k c hk => by simp at hk, by simp, fun h => by omega⟩
  | n + 1, off, sp, h => by
    obtain ⟨d, hd⟩ := h 0 (by omega);rw [Option.bind_eq_some_iff, Nat.zero_mul] at hd;obtain ⟨c, hc, hd⟩ := hd;obtain ⟨hl, hs, hlt, hrow⟩ := cells_of hc (by rw [he.1]; exact hz);simp only [Addr.add, if_true] at hs hlt hrow;subst hs;obtain ⟨x, hx, hok⟩ := he.2 H enc w M spare held fuel c d hM hd;obtain ⟨css, xs, rfl, h1, h2, h3, _⟩ := Uz he hz hM g n (off + P.cellsOf e) none (fun i hi => by
      obtain ⟨d, hd⟩ := h (i + 1) (by omega);refine ⟨d, ?_⟩;rw [Addr.add_lit] at hd ⊢
      rwa [show off + (i + 1) * P.cellsOf e = off + P.cellsOf e + i * P.cellsOf e by rw [Nat.add_mul]; omega] at hd)
    refine ⟨c :: css, x :: xs, rfl, ⟨hx, h1⟩, ?_, fun y hy => ?_, fun _ => ⟨rfl, hlt⟩⟩
    · rw [List.flatten_cons];exact zcW hrow (by rw [hl]; exact h2)
    · rcases List.mem_cons.1 hy with rfl | hy
      · exact hok
      · exact h3 y hy

theorem zbQ {P : Program} {t e : TypeId} {α : Type} {r : RT α} {ok : α → Prop} (ht : P.underlying t = some (.slice e)) (hc : P.cellsOf t = 1) (he : wQ P e r ok) (hz : 0 < r.sz) :
    wQ P t (RT.rs r) (fun xs => xs.length ≤ maxLen ∧ ∀ x ∈ xs, ok x) := by
  refine ⟨hc, fun H enc w M spare held fuel cs d hM h => ?_⟩;rcases DataW.trod_slice ht h with ⟨rfl, _⟩ | ⟨⟨g, off, sp⟩, len, cap, elems, rest, n, rfl, rfl, _, _, hl, hm, hlen, hel, _, _⟩
  · exact ⟨[], ⟨none, 0, [], rfl, rfl, ⟨by simp, Nat.zero_le _⟩, trivial, fun h => by simp at h⟩, by simp, by simp⟩
  · obtain ⟨css, xs, rfl, h1, h2, h3, h4⟩ := Uz he hz hM g len off sp (fun i hi => ⟨elems[i], by rw [hel i hi, List.getElem?_eq_getElem]⟩);refine ⟨xs, ⟨some ⟨g, off, sp⟩, cap, css, rfl, rfl, ⟨hl, hm⟩, h1, fun h0 => ?_⟩, Nat.le_trans hl hm, h3⟩;obtain ⟨rfl, hlt⟩ := h4 h0;exact ⟨g, off, rfl, fun hg => by have := hM g hg; omega, hlt, h2⟩

def zbh (P : Program) (fs : List Field) (off : Nat) {α : Type} (r : RT α) (ok : α → Prop) : Prop :=
  ∀ (H : Type) (enc : TypeId × Value → H) (w : World) (M : Nat → Prop) (spare : Nat → Bool) (held : Bool) (fuel : Nat) (cs : List Value), (∀ g, M g → w.heap.size ≤ g) → cs.length = off + r.sz →
    (∀ f ∈ fs, ∃ d, DataW.trod enc P w 0 spare held fuel f.type ((cs.drop f.offset).take (P.cellsOf f.type)) = some d) → ∃ x, r.rel M w (cs.drop off) x [] ∧ ok x

theorem UV {P : Program} {f : Field} {off : Nat} {α : Type} {r : RT α} {ok : α → Prop} (ho : f.offset = off) (h : wQ P f.type r ok) : zbh P [f] off r ok := by
  intro H enc w M spare held fuel cs hM hl hf;obtain ⟨d, hd⟩ := hf f (by simp);rw [ho, List.take_of_length_le (by rw [List.length_drop, h.1]; omega)] at hd;exact h.2 H enc w M spare held fuel _ d hM hd
theorem uq {P : Program} {f : Field} {fs : List Field} {off : Nat} {α β : Type} {r : RT α} {s : RT β} {ok : α → Prop} {ok' : β → Prop} (ho : f.offset = off) (h : wQ P f.type r ok) (h' : zbh P fs (off + r.sz) s ok') :
    zbh P (f :: fs) off (RT.pr r s) (fun x => ok x.1 ∧ ok' x.2) := by
  intro H enc w M spare held fuel cs hM hl hf;obtain ⟨d, hd⟩ := hf f (by simp);rw [ho, h.1] at hd;obtain ⟨x, hx, hok⟩ := h.2 H enc w M spare held fuel _ d hM hd;have hl' : cs.length = off + r.sz + s.sz := by rw [hl]; show off + (r.sz + s.sz) = _; omega
  obtain ⟨y, hy, hok'⟩ := h' H enc w M spare held fuel cs hM hl' (fun f hf' => hf f (by simp [hf']));refine ⟨(x, y), ⟨(cs.drop off).take r.sz, cs.drop (off + r.sz), [], [], ?_, rfl, hx, hy⟩, hok, hok'⟩;rw [← List.drop_drop, List.take_append_drop]

theorem VD {P : Program} {t : TypeId} {fs : Array Field} {α : Type} {r : RT α} {ok : α → Prop} (ht : P.underlying t = some (.struct fs)) (hc : P.cellsOf t = r.sz) (h : zbh P fs.toList 0 r ok) : wQ P t r ok := by
  refine ⟨hc, fun H enc w M spare held fuel cs d hM hd => ?_⟩;obtain ⟨xs, n, rfl, _, hl, hx, hf⟩ := DataW.trod_struct ht hd;have := h H enc w M spare held n cs hM (by rw [hl, hc, Nat.zero_add]) (fun f hf' => by
    obtain ⟨i, hi, rfl⟩ := List.mem_iff_getElem.1 hf';have hi' : i < fs.size := by simpa using hi
    refine ⟨xs[i]'(by omega), ?_⟩;rw [hf i _ (by simp [hi']), List.getElem?_eq_getElem])
  simpa using this

theorem open_st {P : Program} {t : TypeId} {α : Type} {r : RT α} {ok : α → Prop} (h : wQ P t r ok) (hr : r.agg = true) {H : Type} {enc : TypeId × Value → H} {w : World} {spare : Nat → Bool} {held : Bool} {cs : Array Value} {d : DataW H} {ps : List MemPlace}
    (ht : DataW.Trod enc P w 0 spare held t (.agg cs) d ps) : ∃ x : α, r.val (fun g => w.heap.size ≤ g) w (.agg cs) x [] ∧ ok x := by
  obtain ⟨fuel, hf⟩ := ht;obtain ⟨x, hx, hok⟩ := h.2 H enc w (fun g => w.heap.size ≤ g) spare held fuel _ _ (fun _ h => h) hf;refine ⟨x, ⟨_, ?_, hx⟩, hok⟩;rw [hr]; simp [mkV, Value.cells]

def OkI (n : Int) : Prop := (Lit.int .i64 n).wf = true
def OkL {α : Type} (ok : α → Prop) (xs : List α) : Prop := xs.length ≤ maxLen ∧ ∀ x ∈ xs, ok x
def OkP {α β : Type} (ok : α → Prop) (ok' : β → Prop) (x : α × β) : Prop := ok x.1 ∧ ok' x.2
end Go.G
