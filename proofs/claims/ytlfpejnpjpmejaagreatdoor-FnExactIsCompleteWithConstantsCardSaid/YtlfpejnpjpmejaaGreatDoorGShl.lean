/- Lemmas on the model and on plain lists: a part of the proof. No conditions. -/
import Derived.Test.YtlfpejnpjpmejaaGreatDoorGAv
import Derived.Shelf.Strings.Split
import Derived.Shelf.Strings.Cut
import Derived.Shelf.Strings.Prefix
import Derived.Shelf.Lay
import Derived.Ground.NamesProg
import Derived.HandedShaped
import Derived.Shelf.Vars
import Derived.LaidLaws
set_option linter.unusedVariables false
namespace Go.G
open Go.RowKit Go.Shelf Go.Proofs
set_option linter.unusedVariables false

def Glo (g : Nat) (w : World) : Prop := ∃ m, w.cell? ⟨g, 0, none⟩ = some (.int .i64 m)
theorem Glo.chg {g : Nat} {w w' : World} (h : Glo g w) (hc : Chg [] w w') : Glo g w' :=
  let ⟨m, hm⟩ := h; ⟨m, hc.cell hm (fun h => nomatch h)⟩
theorem Chg.drewN (w : World) (n : Nat) : Chg [] w (w.drewN n) := ⟨rfl, rfl, rfl, Nat.le_refl _, fun _ _ _ => rfl⟩
theorem bq {α β : Type} {o : Option α} {f : α → Option β} {b : β} (h : o.bind f = some b) : ∃ a, o = some a ∧ f a = some b := bind_some h
theorem bq2 {α β γ : Type} {o : Option α} {p : α → Option γ} {f : α → γ → Option β} {b : β} (h : (o.bind fun a => (p a).bind (f a)) = some b) : ∃ a, o = some a ∧ ∃ c, p a = some c ∧ f a c = some b := by
  obtain ⟨a, e, h⟩ := bind_some h; obtain ⟨c, e2, h⟩ := bind_some h; exact ⟨a, e, c, e2, h⟩
theorem RT.val.pa {α : Type} {r : RT α} {M : Nat → Prop} {w : World} {v : Value} {x : α} {fp : List Nat} (h : r.val M w v x fp) (a b : World) : r.val (Past M a b) w v x fp := h.sub (fun g hg => .inl hg.1)
theorem RBox.pa {M : Nat → Prop} {w : World} {g : Nat} {T : TypeId} {cs : List Value} (h : RBox M w g T cs) (a b : World) : RBox (Past M a b) w g T cs := h.sub (fun q hq => .inl hq.1)
theorem st0 {M : Nat → Prop} {w : World} (hM : ∀ g, w.heap.size ≤ g → M g) : Own (Nw w []) M w [] ∧ Chg [] w w := ⟨Own.start hM Nw.fut, Chg.refl [] w⟩
theorem nd1 {g : Nat} : [g].Nodup := List.nodup_cons.2 ⟨(fun h => nomatch h), List.nodup_nil⟩
class Sb (p : Prop) (M M' : Nat → Prop) (w : World) (q : outParam Prop) : Prop where
  sb : (∀ g, M' g → M g ∨ w.heap.size ≤ g) → p → q
instance sb_val {α : Type} {r : RT α} {M M' : Nat → Prop} {w : World} {v : Value} {x : α} {fp : List Nat} : Sb (r.val M w v x fp) M M' w (r.val M' w v x fp) := ⟨fun h a => a.sub h⟩
instance sb_box {M M' : Nat → Prop} {w : World} {g : Nat} {T : TypeId} {cs : List Value} : Sb (RBox M w g T cs) M M' w (RBox M' w g T cs) := ⟨fun h a => a.sub h⟩
section
variable {p1 p2 p3 p4 p5 p6 q1 q2 q3 q4 q5 q6 : Prop} {M M' : Nat → Prop} {w : World}
theorem su2 (h : ∀ g, M' g → M g ∨ w.heap.size ≤ g) (a : p1) (b : p2) [i1 : Sb p1 M M' w q1] [i2 : Sb p2 M M' w q2] : q1 ∧ q2 := ⟨i1.sb h a, i2.sb h b⟩
theorem su3 (h : ∀ g, M' g → M g ∨ w.heap.size ≤ g) (a : p1) (b : p2) (c : p3) [i1 : Sb p1 M M' w q1] [i2 : Sb p2 M M' w q2] [i3 : Sb p3 M M' w q3] : q1 ∧ q2 ∧ q3 := ⟨i1.sb h a, su2 h b c⟩
theorem su4 (h : ∀ g, M' g → M g ∨ w.heap.size ≤ g) (a : p1) (b : p2) (c : p3) (d : p4) [i1 : Sb p1 M M' w q1] [i2 : Sb p2 M M' w q2] [i3 : Sb p3 M M' w q3] [i4 : Sb p4 M M' w q4] : q1 ∧ q2 ∧ q3 ∧ q4 := ⟨i1.sb h a, su3 h b c d⟩
theorem su5 (h : ∀ g, M' g → M g ∨ w.heap.size ≤ g) (a : p1) (b : p2) (c : p3) (d : p4) (e : p5) [i1 : Sb p1 M M' w q1] [i2 : Sb p2 M M' w q2] [i3 : Sb p3 M M' w q3] [i4 : Sb p4 M M' w q4] [i5 : Sb p5 M M' w q5] : q1 ∧ q2 ∧ q3 ∧ q4 ∧ q5 := ⟨i1.sb h a, su4 h b c d e⟩
theorem su6 (h : ∀ g, M' g → M g ∨ w.heap.size ≤ g) (a : p1) (b : p2) (c : p3) (d : p4) (e : p5) (f : p6) [i1 : Sb p1 M M' w q1] [i2 : Sb p2 M M' w q2] [i3 : Sb p3 M M' w q3] [i4 : Sb p4 M M' w q4] [i5 : Sb p5 M M' w q5] [i6 : Sb p6 M M' w q6] : q1 ∧ q2 ∧ q3 ∧ q4 ∧ q5 ∧ q6 := ⟨i1.sb h a, su5 h b c d e f⟩
end
def sTrim (s p : ByteArray) : ByteArray := ⟨(Lib.trimSuffix s.data.toList p.data.toList).toArray⟩
def wr (s p : ByteArray) : List ByteArray := Lib.splitB p 0 (Lib.countB s p) s
def sCut (s p : ByteArray) : ByteArray × ByteArray × Bool := (⟨(Lib.cut s.data.toList p.data.toList).1.toArray⟩, ⟨(Lib.cut s.data.toList p.data.toList).2.1.toArray⟩, (Lib.cut s.data.toList p.data.toList).2.2)
theorem zcv {P : Program} {t : TypeId} {M : Nat → Prop} {w : World} {p : Addr} {fp : List Nat} {q : ByteArray} (ha : AggT P t false) (hs : SzT P t 1) (h : RT.str.at_ M w p q fp) : wG P t w p (.string q) := by
  obtain ⟨v, h1, cs, rfl, rfl, _⟩ := zT (r := RT.str) ha hs (fun _ => rfl) h;exact h1
section
variable {P : Program} {ρ : Ren} {w : World} {M : Nat → Prop}
theorem x_trim (L : Lays.n102 P ρ) {s p r : ByteArray} (hs : (bif decide (s.size ≤ 1000) then some (sTrim s p) else none) = some r) : Gives P (ρ.f 102) [.string s, .string p] w fun v w' => v = .string r ∧ Chg [] w w' := by
  rcases zm hs with ⟨c, hs⟩ | ⟨c, hs⟩
  · cases hs;refine (Any.strings_TrimSuffix L s p w (by simp at c; omega)).mono ?_;rintro e w' ⟨rfl, rfl⟩;exact ⟨_, rfl, rfl, Chg.refl _ _⟩
  · cases hs
theorem x_cut (L : Lays.n145 P ρ) {s p : ByteArray} {r : ByteArray × ByteArray × Bool} (hG : Glo (ρ.g 1) w) (hs : (bif decide (s.size ≤ 1000) then some (sCut s p) else none) = some r) : Gives P (ρ.f 145) [.string s, .string p] w fun v w' => v = .tuple #[.string r.1, .string r.2.1, .bool r.2.2] ∧ Chg [] w w' := by
  obtain ⟨m, hm⟩ := hG;rcases zm hs with ⟨c, hs⟩ | ⟨c, hs⟩
  · cases hs;refine (Any.strings_Cut L s p m w (by simp at c; omega) hm).mono ?_;rintro e w' ⟨rfl, n, rfl⟩;exact ⟨_, rfl, rfl, Chg.drewN w n⟩
  · cases hs
theorem zaH {w : World} : ∀ xs : List ByteArray, relL RT.str M w (xs.map fun x => [Value.string x]) xs (xs.map fun _ => [])
  | [] => trivial
  | x :: xs => ⟨⟨rfl, rfl⟩, zaH xs⟩
theorem x_split (L : Lays.n146 P ρ) (hi9 : (P.info? (ρ.t 9)).map (fun i => (i.zero, i.size, i.bytes)) = some (some (.string ByteArray.empty), 1, 16)) {s p : ByteArray} {r : List ByteArray} (hG : Glo (ρ.g 1) w) (hM : ∀ g, w.heap.size ≤ g → M g) (hs : (bif decide (s.size ≤ 1000) && decide (1 ≤ p.size) then some (wr s p) else none) = some r) :
    Gives P (ρ.f 146) [.string s, .string p] w fun v w' => ∃ (ra0 : Option Addr) (rn0 rc0 : Nat) (rf0 : List Nat), v = .slice ra0 rn0 rc0 ∧ Chg [] w w' ∧ (RT.os (ρ.t 9) RT.str).val M w' (.slice ra0 rn0 rc0) r rf0 ∧ Own (Nw w []) (fun _ => True) w' (rf0 ++ []) := by
  obtain ⟨m, hm⟩ := hG;rcases zm hs with ⟨c, hs⟩ | ⟨c, hs⟩
  · cases hs;simp only [Bool.and_eq_true, decide_eq_true_eq] at c;obtain ⟨c1, c2⟩ := c;have hle := Lib.countB_le p c2 s.size s (Nat.le_refl _);have hlen := Lib.splitB_all p c2 0 _ s rfl;refine (Any.strings_Split L hi9 s p m w (by omega) hm c2).mono ?_;rintro e w' ⟨rfl, rfl⟩;have hbox : BoxV (w.alloc (.cells ((wr s p).map Value.string).toArray (ρ.t 9))) w.heap.size (ρ.t 9) ((wr s p).map fun x => [Value.string x]).flatten := by
      unfold BoxV;have : ((wr s p).map fun x => [Value.string x]).flatten = (wr s p).map Value.string := by
        induction (wr s p) with
        | nil => rfl
        | cons x l ih => simpa using ih
      rw [this];exact heap_alloc_new w _
    have hfl : ((wr s p).map fun _ => ([] : List Nat)).flatten = [] := by simp
    have hl : (wr s p).length = Lib.countB s p + 1 := hlen;have hv := zQ (r := RT.str) (M := M) hbox (zaH (wr s p)) (by unfold maxLen; omega) (by rw [hfl]; simp);rw [hfl, hl] at hv;have hc := Chg.alloc w (.cells ((wr s p).map Value.string).toArray (ρ.t 9));have hO := ((Own.start (N := Nw w []) hM Nw.fut).new1 hc rfl hbox.lt).top;exact ⟨_, rfl, _, _, _, _, rfl, hc, hv, hO⟩
  · cases hs
end
theorem hand_laid {H : Type} {enc : TypeId × Value → H} {a : Assume} {C : Checked} {os : Os} {f : FuncId} {fn : Func} {s : ChangeSpec} {cd : List PathCond} {ap fr ho ag : Bool} {X : World → Array Value → Prop}
    (own : ownKnob C.prog.godebug = none) (st : os.Started) (ni : C.prog.inits.idxOf? f = none) (hf : C.prog.funcs[f]? = some fn)
    (wit : ∃ (w : World) (tape : Tape) (i : Input), w.os = os ∧ (w.forCall tape i).Shaped C.prog ∧ i.vars = [] ∧ Input.okWide C.prog (w.forCall tape i) .any w.heap.size f i ∧
      ((s.pre enc C.prog fn cd ap (w.forCall tape i).memory i.args ∧ X (w.forCall tape i).memory i.args) ∧ sizedMet enc C.prog fn (OpenSpec.ofChange s) ap (w.forCall tape i).memory i.args) ∧ a.holds C.prog (lone (Frame.enter C.prog f i.args .normal) [] (w.forCall tape i)))
    (con : ∀ (W : World) (base : Nat) (args : Array Value) (ds gs : List (DataW H)) (before : List MemPlace),
      (∀ (j : Nat) t v, fn.params[j]? = some t → args[j]? = some v → Value.okWide C.prog W .any base t v) →
      DataW.Whole enc C.prog fn.params.toList s.vars ap W args.toList ds gs before →
      W.ShapedOpen C.prog → Calls C.prog f args W fun e W' => ∃ v, e = .returned v ∧ s.post enc C.prog fn ap fr ho ag W args v W') :
    ReturnsInHanded a C os f .any (fun w args => (s.pre enc C.prog fn cd ap w args ∧ X w args) ∧ sizedMet enc C.prog fn (OpenSpec.ofChange s) ap w args) (s.post enc C.prog fn ap fr ho ag) := by
  refine returnsInHanded_of_calls own st ni wit fun w tape i _ hs _ hok hpre _ => ?_
  obtain ⟨_, _, _, fn', hfn', _, _, _, _, hval⟩ := hok;obtain rfl : fn' = fn := Option.some.inj (hfn'.symm.trans hf);obtain ⟨⟨⟨ds, gs, before, hw, _⟩, _⟩, _⟩ := hpre;refine (con (w.forCall tape i) w.heap.size i.args ds gs before hval (DataW.Whole.of_heap (w' := w.forCall tape i) (by rfl) hw) hs).mono fun e W' ⟨v, he, hp⟩ => ?_
  subst he;exact ChangeSpec.post_blind hp
noncomputable def laidW (P : Program) (os : Os) (g1 g2 : Nat) (l1 l2 : List Nat) : World :=
  let put (l : List Nat) : Obj → Obj
    | .cells _ t z => .cells (l.map fun n : Nat => Value.int .u8 (n : Int)).toArray t z
    | o => o
  let w := World.holding P os ⟨#[], #[], []⟩
  { w with heap := (w.heap.modify g1 (put l1)).modify g2 (put l2) }
end Go.G
