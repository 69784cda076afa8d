/- Lemmas on the model and on plain lists: a part of the proof. No conditions. -/
import Derived.Test.YtlfpejnpjpmejaaGreatDoorGLend
set_option linter.unusedVariables false
namespace Go.G
open Go.RowKit
theorem cb {a b : Bool} (h : a = b) : Value.bool a = Value.bool b := congrArg Value.bool h
abbrev pq (b o : Nat) : Value := .pointer (some ⟨b, o, none⟩)
abbrev ri : RT Int := RT.int .i64
abbrev rl : RT (List Int) := RT.rs ri
abbrev iv (n : Int) : Value := .int .i64 n
section
variable {P : Program} {ops : Array Oper} {Q : Exit → Act → World → Prop} {n : Nat} {σ : Nat → Value} {w : World} {d : Nat} {ty : TypeId} {pos : String} {af : Array Edge} {rest : List Oper} {x : Operand}
theorem mi {k : IntKind} {i : Int} (h : ev n σ x = .int k i) (K : WL P ops Q rest (fr n (upd σ d (.int k i))) w) : WL P ops Q (⟨some d, .move x, ty, pos, af, none⟩ :: rest) (fr n σ) w := za _ (zD h) K
theorem mb {b : Bool} (h : ev n σ x = .bool b) (K : WL P ops Q rest (fr n (upd σ d (.bool b))) w) : WL P ops Q (⟨some d, .move x, ty, pos, af, none⟩ :: rest) (fr n σ) w := za _ (zD h) K
theorem ms {a : Option Addr} {l c : Nat} (h : ev n σ x = .slice a l c) (K : WL P ops Q rest (fr n (upd σ d (.slice a l c))) w) : WL P ops Q (⟨some d, .move x, ty, pos, af, none⟩ :: rest) (fr n σ) w := za _ (zD h) K
theorem mp {b o : Nat} (h : ev n σ x = pq b o) (K : WL P ops Q rest (fr n (upd σ d (pq b o))) w) : WL P ops Q (⟨some d, .move x, ty, pos, af, none⟩ :: rest) (fr n σ) w := za _ (zD h) K
theorem ai {k : IntKind} {i : Int} (h : ev n σ x = .int k i) (K : WL P ops Q rest (fr n (upd σ d (.int k i))) w) : WL P ops Q (⟨some d, .assign x, ty, pos, af, none⟩ :: rest) (fr n σ) w := za _ (zG h) K
theorem ab {b : Bool} (h : ev n σ x = .bool b) (K : WL P ops Q rest (fr n (upd σ d (.bool b))) w) : WL P ops Q (⟨some d, .assign x, ty, pos, af, none⟩ :: rest) (fr n σ) w := za _ (zG h) K
theorem ax {a : Option Addr} {l c : Nat} (h : ev n σ x = .slice a l c) (K : WL P ops Q rest (fr n (upd σ d (.slice a l c))) w) : WL P ops Q (⟨some d, .assign x, ty, pos, af, none⟩ :: rest) (fr n σ) w := za _ (zG h) K
theorem ap {b o : Nat} (h : ev n σ x = pq b o) (K : WL P ops Q rest (fr n (upd σ d (pq b o))) w) : WL P ops Q (⟨some d, .assign x, ty, pos, af, none⟩ :: rest) (fr n σ) w := za _ (zG h) K
theorem pn {op : Op} {j : Nat} {want : Bool} (tg : Nat) (hg : ev n σ (.tmp tg) = .bool (!want)) (k : WL P ops Q rest (fr n (upd σ d undef)) w) (hj : (ops[j]?).bind (·.dst) = some tg := by kernel_rfl) :
    WL P ops Q (⟨some d, op, ty, pos, af, some (j, want)⟩ :: rest) (fr n σ) w := pl_not hj hg k
theorem py {op : Op} {j : Nat} {want : Bool} (tg : Nat) (v : Value) {w' : World} (hg : ev n σ (.tmp tg) = .bool want) (hr : Yv P (ev n σ) ⟨some d, op, ty, pos, af, some (j, want)⟩ w v w') (k : WL P ops Q rest (fr n (upd σ d v)) w') (hj : (ops[j]?).bind (·.dst) = some tg := by kernel_rfl) :
    WL P ops Q (⟨some d, op, ty, pos, af, some (j, want)⟩ :: rest) (fr n σ) w := pl_yes v hj hg hr k
end
section
variable {P : Program} {ops : Array Oper} {Q : Exit → Act → World → Prop} {S : World → Prop} {T : List Nat} {fuel n d i : Nat} {tl : Bool} {listed : Array Bool} {σ : Nat → Value} {w : World} {op : Op} {ty : TypeId} {pos : String} {af : Array Edge} {x : Operand}
theorem xq (i : Nat) (v : Value) (hi : ops[i]? = some ⟨some d, op, ty, pos, af, none⟩) (hy : ∀ {w}, Yv P (ev n σ) ⟨some d, op, ty, pos, af, none⟩ w v w) (hS : S w)
    (h : X P ops Q S T fuel tl (listed.setIfInBounds i true) (fr n (upd σ d v)) w) (hc : chkF ops T listed i false = true := by kernel_rfl) : X P ops Q S T (fuel + 1) tl listed (fr n σ) w := x_p i v hi hc (fun _ => hy) (fun _ => hS) h
theorem xmi (i : Nat) {k : IntKind} {a : Int} (hi : ops[i]? = some ⟨some d, .move x, ty, pos, af, none⟩) (hy : ev n σ x = .int k a) (hS : S w)
    (h : X P ops Q S T fuel tl (listed.setIfInBounds i true) (fr n (upd σ d (.int k a))) w) (hc : chkF ops T listed i false = true := by kernel_rfl) : X P ops Q S T (fuel + 1) tl listed (fr n σ) w := x_p i _ hi hc (fun _ => zD hy) (fun _ => hS) h
theorem xmb (i : Nat) {b : Bool} (hi : ops[i]? = some ⟨some d, .move x, ty, pos, af, none⟩) (hy : ev n σ x = .bool b) (hS : S w)
    (h : X P ops Q S T fuel tl (listed.setIfInBounds i true) (fr n (upd σ d (.bool b))) w) (hc : chkF ops T listed i false = true := by kernel_rfl) : X P ops Q S T (fuel + 1) tl listed (fr n σ) w := x_p i _ hi hc (fun _ => zD hy) (fun _ => hS) h
theorem xms (i : Nat) {a : Option Addr} {l c : Nat} (hi : ops[i]? = some ⟨some d, .move x, ty, pos, af, none⟩) (hy : ev n σ x = .slice a l c) (hS : S w)
    (h : X P ops Q S T fuel tl (listed.setIfInBounds i true) (fr n (upd σ d (.slice a l c))) w) (hc : chkF ops T listed i false = true := by kernel_rfl) : X P ops Q S T (fuel + 1) tl listed (fr n σ) w := x_p i _ hi hc (fun _ => zD hy) (fun _ => hS) h
theorem xmp (i : Nat) {b o : Nat} (hi : ops[i]? = some ⟨some d, .move x, ty, pos, af, none⟩) (hy : ev n σ x = pq b o) (hS : S w)
    (h : X P ops Q S T fuel tl (listed.setIfInBounds i true) (fr n (upd σ d (pq b o))) w) (hc : chkF ops T listed i false = true := by kernel_rfl) : X P ops Q S T (fuel + 1) tl listed (fr n σ) w := x_p i _ hi hc (fun _ => zD hy) (fun _ => hS) h
theorem xpn (i tg : Nat) {j : Nat} {want : Bool} (hi : ops[i]? = some ⟨some d, op, ty, pos, af, some (j, want)⟩) (hg : ev n σ (.tmp tg) = .bool (!want)) (hS : S w)
    (h : X P ops Q S T fuel tl (listed.setIfInBounds i true) (fr n (upd σ d undef)) w) (hc : chkF ops T listed i false = true := by kernel_rfl) (hj : (ops[j]?).bind (·.dst) = some tg := by kernel_rfl) : X P ops Q S T (fuel + 1) tl listed (fr n σ) w :=
  x_pn i hi hc hj hg (fun _ => hS) h
theorem xpy (i tg : Nat) (v : Value) {j : Nat} {want : Bool} (hi : ops[i]? = some ⟨some d, op, ty, pos, af, some (j, want)⟩) (hg : ev n σ (.tmp tg) = .bool want) (hy : ∀ {w}, Yv P (ev n σ) ⟨some d, op, ty, pos, af, some (j, want)⟩ w v w) (hS : S w)
    (h : X P ops Q S T fuel tl (listed.setIfInBounds i true) (fr n (upd σ d v)) w) (hc : chkF ops T listed i false = true := by kernel_rfl) (hj : (ops[j]?).bind (·.dst) = some tg := by kernel_rfl) : X P ops Q S T (fuel + 1) tl listed (fr n σ) w :=
  x_py i v hi hc hj hg (fun _ => hy) (fun _ => hS) h
theorem xl (i : Nat) {v : Value} (hi : ops[i]? = some ⟨some d, op, ty, pos, af, none⟩) (hy : ∀ w, S w → Yv P (ev n σ) ⟨some d, op, ty, pos, af, none⟩ w v w) (hS : S w)
    (h : X P ops Q S T fuel false (listed.setIfInBounds i true) (fr n (upd σ d v)) w) (hc : chkF ops T listed i true = true := by kernel_rfl) : X P ops Q S T (fuel + 1) false listed (fr n σ) w := x_l i v hi hc hy hS h
end
def nth : List Value → Nat → Option Value
  | [], _ => none
  | v :: _, 0 => some v
  | _ :: l, i + 1 => nth l i
theorem zaN : ∀ {l : List Value} {i : Nat} {v : Value}, nth l i = some v → ∃ l1 l2, l = l1 ++ ([v] ++ l2) ∧ l1.length = i
  | [], _, _, h => by cases h
  | u :: l, 0, v, h => by cases h; exact ⟨[], l, rfl, rfl⟩
  | u :: l, i + 1, v, h => by
    obtain ⟨l1, l2, rfl, rfl⟩ := zaN (l := l) h;exact ⟨u :: l1, l2, rfl, rfl⟩
section
variable {P : Program} {ρ : Operand → Value} {d : Option Tmp} {ty t T : TypeId} {pos : String} {af : Array Edge} {gd : Option (Nat × Bool)} {x y : Operand} {g i : Nat} {cs : List Value} {v : Value} {w : World} {a b : Int} {k : Bool}
theorem ldx (hX : ρ x = pq g i) (ha : AggT P t false) (hs : SzT P t 1) (h : BoxV w g T cs) (hi : nth cs i = some v) : ∀ w', Chg [] w w' → Yv P ρ ⟨d, .load t x, ty, pos, af, gd⟩ w' v w' := fun w' hc => by
  obtain ⟨l1, l2, e, rfl⟩ := zaN hi;exact zo hX (Zn ha hs h l1 [v] l2 e rfl (fun _ => rfl) w' hc)
theorem ldxw (hX : ρ x = pq g 0) (ha : AggT P t true) (h : BoxV w g T cs) (hs : SzT P t cs.length) : ∀ w', Chg [] w w' → Yv P ρ ⟨d, .load t x, ty, pos, af, gd⟩ w' (.agg cs.toArray) w' := fun w' hc =>
  zo hX (Zn ha hs h [] cs [] (by simp) rfl (fun h => nomatch h) w' hc)
theorem ld (hX : ρ x = pq g i) (ha : AggT P t false) (hs : SzT P t 1) (h : BoxV w g T cs) (hi : nth cs i = some v) : Yv P ρ ⟨d, .load t x, ty, pos, af, gd⟩ w v w := ldx hX ha hs h hi w (Chg.refl _ _)
theorem ldw (hX : ρ x = pq g 0) (ha : AggT P t true) (h : BoxV w g T cs) (hs : SzT P t cs.length) : Yv P ρ ⟨d, .load t x, ty, pos, af, gd⟩ w (.agg cs.toArray) w := ldxw hX ha h hs w (Chg.refl _ _)
theorem yad (h : ρ x = iv a) (h' : ρ y = iv b) : Yv P ρ ⟨d, .binOp .add t x y T, ty, pos, af, gd⟩ w (iv (w64 (a + b))) w := y_add h h'
theorem ysu (h : ρ x = iv a) (h' : ρ y = iv b) : Yv P ρ ⟨d, .binOp .sub t x y T, ty, pos, af, gd⟩ w (iv (w64 (a - b))) w := y_sub h h'
theorem ymu (h : ρ x = iv a) (h' : ρ y = iv b) : Yv P ρ ⟨d, .binOp .mul t x y T, ty, pos, af, gd⟩ w (iv (w64 (a * b))) w := y_mul h h'
theorem ptb {z : Operand} (h : ρ x = .bool true) (h' : ρ y = .bool k) : Yv P ρ ⟨d, .pick x y z, ty, pos, af, gd⟩ w (.bool k) w := yF h h'
theorem pfb {z : Operand} (h : ρ x = .bool false) (h' : ρ z = .bool k) : Yv P ρ ⟨d, .pick x y z, ty, pos, af, gd⟩ w (.bool k) w := yH h h'
end
theorem fr_m (n : Nat) {σ : Nat → Value} {l : List (Nat × Value)} (h : l.map (fun p => σ p.1) = l.map (·.2)) : fr n σ = fr n (ovl σ l) := zF n (by
  induction l with
  | nil => trivial
  | cons p l ih =>
    rw [List.map_cons, List.map_cons, List.cons.injEq] at h;exact ⟨h.1, ih h.2⟩)
theorem os0 {α : Type} {r : RT α} {M : Nat → Prop} {w : World} {g : Nat} {e : TypeId} (hb : BoxV w g e []) : (RT.os e r).val M w (.slice (some ⟨g, 0, none⟩) 0 0) ([] : List α) [g] :=
  zQ (css := []) (fps := []) (xs := ([] : List α)) hb trivial (Nat.zero_le _) (List.nodup_cons.2 ⟨(fun h => nomatch h), List.nodup_nil⟩)
theorem os1 {M : Nat → Prop} {w : World} {g : Nat} {e : TypeId} {x : Int} (hb : BoxV w g e [iv x]) : (RT.os e ri).val M w (.slice (some ⟨g, 0, none⟩) 1 1) [x] [g] :=
  zQ (r := ri) (css := [[iv x]]) (fps := [([] : List Nat)]) (xs := [x]) hb ⟨⟨rfl, rfl⟩, trivial⟩ (Nat.le_of_ble_eq_true rfl) (List.nodup_cons.2 ⟨(fun h => nomatch h), List.nodup_nil⟩)
class Up (p : Prop) (w w' : World) (q : outParam Prop) : Prop where
  up : p → Chg [] w w' → q
section
variable {w w' : World}
instance upVal {α : Type} {r : RT α} {M : Nat → Prop} {v : Value} {x : α} {fp : List Nat} : Up (r.val M w v x fp) w w' (r.val M w' v x fp) := ⟨fun h c => RT.val.ext h c⟩
instance upAt {α : Type} {r : RT α} {M : Nat → Prop} {p : Addr} {x : α} {fp : List Nat} : Up (r.at_ M w p x fp) w w' (r.at_ M w' p x fp) := ⟨fun h c => at_ext h c⟩
instance upBox {g : Nat} {T : TypeId} {cs : List Value} : Up (BoxV w g T cs) w w' (BoxV w' g T cs) := ⟨fun h c => BoxV.cn h c⟩
instance upRow {g o : Nat} {cs : List Value} : Up (RowAt w g o cs) w w' (RowAt w' g o cs) := ⟨fun h c => RowAt.chg h c (fun h => nomatch h)⟩
instance upRbox {M : Nat → Prop} {g : Nat} {T : TypeId} {cs : List Value} : Up (RBox M w g T cs) w w' (RBox M w' g T cs) := ⟨fun h c => RBox.ext h c⟩
instance upChg {F : List Nat} {w0 : World} : Up (Chg F w0 w) w w' (Chg F w0 w') := ⟨fun h c => Chg.ext h c⟩
instance upOwn {N M : Nat → Prop} {L : List Nat} : Up (Own N M w L) w w' (Own N M w' L) := ⟨fun h c => Own.ext h c⟩
theorem xt2 {p1 p2 q1 q2 : Prop} (c : Chg [] w w') (h1 : p1) (h2 : p2) [Up p1 w w' q1] [Up p2 w w' q2] : q1 ∧ q2 := ⟨Up.up h1 c, Up.up h2 c⟩
theorem xt3 {p1 p2 p3 q1 q2 q3 : Prop} (c : Chg [] w w') (h1 : p1) (h2 : p2) (h3 : p3) [Up p1 w w' q1] [Up p2 w w' q2] [Up p3 w w' q3] : q1 ∧ q2 ∧ q3 := ⟨Up.up h1 c, Up.up h2 c, Up.up h3 c⟩
theorem xt4 {p1 p2 p3 p4 q1 q2 q3 q4 : Prop} (c : Chg [] w w') (h1 : p1) (h2 : p2) (h3 : p3) (h4 : p4) [Up p1 w w' q1] [Up p2 w w' q2] [Up p3 w w' q3] [Up p4 w w' q4] : q1 ∧ q2 ∧ q3 ∧ q4 := ⟨Up.up h1 c, Up.up h2 c, Up.up h3 c, Up.up h4 c⟩
theorem xt5 {p1 p2 p3 p4 p5 q1 q2 q3 q4 q5 : Prop} (c : Chg [] w w') (h1 : p1) (h2 : p2) (h3 : p3) (h4 : p4) (h5 : p5) [Up p1 w w' q1] [Up p2 w w' q2] [Up p3 w w' q3] [Up p4 w w' q4] [Up p5 w w' q5] : q1 ∧ q2 ∧ q3 ∧ q4 ∧ q5 := ⟨Up.up h1 c, Up.up h2 c, Up.up h3 c, Up.up h4 c, Up.up h5 c⟩
theorem xt6 {p1 p2 p3 p4 p5 p6 q1 q2 q3 q4 q5 q6 : Prop} (c : Chg [] w w') (h1 : p1) (h2 : p2) (h3 : p3) (h4 : p4) (h5 : p5) (h6 : p6) [Up p1 w w' q1] [Up p2 w w' q2] [Up p3 w w' q3] [Up p4 w w' q4] [Up p5 w w' q5] [Up p6 w w' q6] : q1 ∧ q2 ∧ q3 ∧ q4 ∧ q5 ∧ q6 := ⟨Up.up h1 c, Up.up h2 c, Up.up h3 c, Up.up h4 c, Up.up h5 c, Up.up h6 c⟩
theorem xt7 {p1 p2 p3 p4 p5 p6 p7 q1 q2 q3 q4 q5 q6 q7 : Prop} (c : Chg [] w w') (h1 : p1) (h2 : p2) (h3 : p3) (h4 : p4) (h5 : p5) (h6 : p6) (h7 : p7) [Up p1 w w' q1] [Up p2 w w' q2] [Up p3 w w' q3] [Up p4 w w' q4] [Up p5 w w' q5] [Up p6 w w' q6] [Up p7 w w' q7] : q1 ∧ q2 ∧ q3 ∧ q4 ∧ q5 ∧ q6 ∧ q7 := ⟨Up.up h1 c, Up.up h2 c, Up.up h3 c, Up.up h4 c, Up.up h5 c, Up.up h6 c, Up.up h7 c⟩
theorem xt8 {p1 p2 p3 p4 p5 p6 p7 p8 q1 q2 q3 q4 q5 q6 q7 q8 : Prop} (c : Chg [] w w') (h1 : p1) (h2 : p2) (h3 : p3) (h4 : p4) (h5 : p5) (h6 : p6) (h7 : p7) (h8 : p8) [Up p1 w w' q1] [Up p2 w w' q2] [Up p3 w w' q3] [Up p4 w w' q4] [Up p5 w w' q5] [Up p6 w w' q6] [Up p7 w w' q7] [Up p8 w w' q8] : q1 ∧ q2 ∧ q3 ∧ q4 ∧ q5 ∧ q6 ∧ q7 ∧ q8 := ⟨Up.up h1 c, Up.up h2 c, Up.up h3 c, Up.up h4 c, Up.up h5 c, Up.up h6 c, Up.up h7 c, Up.up h8 c⟩
end
abbrev sv (a : Option Addr) (n c : Nat) : Value := .slice a n c
abbrev ro : RT (Int × List Int) := RT.pr ri rl
abbrev rp : RT (List (Int × List Int)) := RT.rs ro
abbrev rm : RT (List (List Int)) := RT.rs rl
abbrev tA : Type := Int × (List (Int × (List Int)))
abbrev tM : Type := List (List Int)
abbrev Hm (w : World) (M : Nat → Prop) : Prop := ∀ g, w.heap.size ≤ g → M g
abbrev Nv : Type := Nat → Value
abbrev OA : Type := Option Addr
theorem dt {p : Prop} [Decidable p] (h : p) : Value.bool (decide p) = Value.bool true := by rw [decide_eq_true h]
theorem df {p : Prop} [Decidable p] (h : ¬p) : Value.bool (decide p) = Value.bool false := by rw [decide_eq_false h]
theorem nl {n m : Nat} (h : Nat.ble n m = true) : n ≤ m := Nat.le_of_ble_eq_true h
theorem mS {g : Nat} {R : List Nat} : g ∈ [g] ++ R := zn (List.mem_singleton.2 rfl)
theorem oc {l : List Value} (h : l.all Value.oneCell' = true) : ∀ u ∈ l, u.oneCell' = true := List.all_eq_true.1 h
theorem ip {P : Program} {t : TypeId} {v : Value} {i : Int} {p : Addr} {w : World} {ρ : Operand → Value} {d : Option Tmp} {ty : TypeId} {pos : String} {af : Array Edge} {g : Option (Nat × Bool)} {X Y : Operand} (h : IdxTo P t v i p) (hX : ρ X = v) (hY : ρ Y = iv i) :
    Yv P ρ ⟨d, .indexAddr t X Y, ty, pos, af, g⟩ w (.pointer (some p)) w := h _ _ _ _ _ _ _ _ _ hX hY
theorem xe {P : Program} {ops : Array Oper} {Q : Exit → Act → World → Prop} {S : World → Prop} {T : List Nat} {fuel : Nat} {tl : Bool} {listed : Array Bool} {w : World} {a : Act} (h : Q .normal a w) (hr : (Region.ready .any ops listed).isEmpty = true := by kernel_rfl) : X P ops Q S T fuel tl listed a w := x_end hr h
theorem obs {α : Type _} {β : Type _} (a : α) (f : α → Option β) : Option.bind (some a) f = f a := rfl
theorem ct1 {α : Type _} (a b : α) : cond true a b = a := rfl
theorem ct0 {α : Type _} (a b : α) : cond false a b = b := rfl
theorem gge {α : Type _} {l : List α} {i : Nat} (h : i < l.length) : l[i]? = some l[i] := List.getElem?_eq_getElem h
theorem itn (n : Nat) : Int.toNat (n : Int) = n := Int.toNat_natCast n
theorem lan {α : Type _} (l : List α) : l ++ [] = l := List.append_nil l
theorem bnt : (!true) = false := rfl
theorem bnf : (!false) = true := rfl
theorem wp_k {P : Program} {c : Code} {a : Act} {w : World} {K : Act → World → Prop} {Q : Exit → Act → World → Prop} (hk : ∀ a w, K a w → Q .ret a w) (h : c.wp P (KPost K) a w) : c.wp P Q a w :=
  wp_mono h (fun e a w hq => by
    cases e with
    | ret => exact hk a w hq
    | _ => exact hq.elim)
end Go.G
