/- Lemmas on the model and on plain lists: a part of the proof. No conditions. -/
import Derived.Test.YtlfpejnpjpmejaaGreatDoorGSort
import Derived.Laws.BytesString
set_option linter.unusedVariables false
namespace Go.G
open Go.RowKit

def mkc (n m : Int) : Option Unit := if 0 ≤ n ∧ n ≤ m ∧ m ≤ 4294967296 then some () else none
theorem mk_cap {P : Program} {α : Type} {r : RT α} {M : Nat → Prop} {w : World} {t e : TypeId} {x : α} {z : List Value} {n m : Int} {u : Unit} (hT : RowT P t e r.sz z) (hy : mkc n m = some u) (hr : ∀ M w, r.rel M w z x []) :
    ∃ a k c w' fp, (Instr.makeSlice t (.int .i64 n) (.int .i64 m)).run P w = .ok (.slice a k c) w' ∧ Chg [] w w' ∧ (∀ g ∈ fp, w.heap.size ≤ g) ∧ (RT.os e r).val M w' (.slice a k c) (List.replicate n.toNat x) fp := by
  unfold mkc at hy;split at hy
  case isFalse => cases hy
  rename_i hnm;obtain ⟨h0, h1, h2⟩ := hnm;obtain ⟨i, zv, hi, hz, hzc, hsz, hby⟩ := hT.inf;obtain ⟨k, rfl⟩ : ∃ k : Nat, n = (k : Int) := ⟨n.toNat, by omega⟩;obtain ⟨c, rfl⟩ : ∃ c : Nat, m = (c : Int) := ⟨m.toNat, by omega⟩;have hb : (i.bytes : Int) * (c : Int) ≤ 281474976710656 := by
    have : i.bytes * c ≤ 32768 * 4294967296 := Nat.mul_le_mul hby (by omega);have h2 : ((i.bytes * c : Nat) : Int) ≤ ((32768 * 4294967296 : Nat) : Int) := Int.ofNat_le.2 this;rw [Int.natCast_mul] at h2;omega
  have hrun := run_make (P := P) w t e i zv hT.und hi hz .i64 .i64 (k : Int) (c : Int) h0 h1 hb (by omega);have hfl : (List.replicate k ([] : List Nat)).flatten = [] := by simp
  refine ⟨_, k, c, w.alloc (.cells (madeCells zv.cells (c * i.size)) e), [w.heap.size], by simpa using hrun, Chg.alloc w _, fun g hg => by simp at hg; omega, ?_⟩;have hl := UW (M := M) (w := w.alloc (.cells (madeCells zv.cells (c * i.size)) e)) (hr _ _) k;have e1 : c * i.size = c * zv.cells.size := by rw [hsz, hzc]; simp [hT.len]
  have e2 : zv.cells.toList = z := by rw [hzc]
  have hfm := zaK zv.cells c;rw [← e1, e2] at hfm;rw [Int.toNat_natCast];refine ⟨_, rfl, _, List.replicate k z, List.replicate k [], rfl, ?_, hl, by simp [Value.ownBlock, hfl], by simp⟩;refine ⟨by simp [hT.len], .inr ⟨w.heap.size, c, _, by simp, Nat.zero_le _, heap_alloc_new w _, by simp; omega, by unfold maxLen; omega, ?_, ?_⟩⟩
  · rw [size_madeCells, hsz]
  · rw [hfm, List.length_replicate];have : List.replicate c z = List.replicate k z ++ List.replicate (c - k) z := by rw [List.replicate_append_replicate]; congr 1; omega
    rw [this, List.flatten_append];exact List.take_left' (by simp [hT.len])

def bstr (ns : List Int) : ByteArray := ns.foldl (fun r n => r.push (UInt8.ofNat n.toNat)) ByteArray.empty
theorem zaG {k : IntKind} {M : Nat → Prop} {w : World} : ∀ {css : List (List Value)} {xs : List Int} {fps : List (List Nat)}, relL (RT.int k) M w css xs fps → css.flatten = xs.map (Value.int k)
  | [], [], [], _ => rfl
  | [], [], _ :: _, h => h.elim
  | [], _ :: _, _, h => h.elim
  | _ :: _, [], _, h => h.elim
  | _ :: _, _ :: _, [], h => h.elim
  | _ :: _, x :: xs, _ :: _, h => by
    rw [List.flatten_cons, zaG h.2, h.1.1]; rfl
theorem y_str {P : Program} {ρ : Operand → Value} {M : Nat → Prop} {w : World} {d : Option Tmp} {ty : TypeId} {pos : String} {af : Array Edge} {g : Option (Nat × Bool)} {x : Operand} {s t e e' : TypeId} {v : Value} {xs : List Int} {fp : List Nat}
    (hs : P.underlying s = some (.slice e)) (ht : P.underlying t = some .string) (he : P.underlying e = some (.int .u8)) (h : (RT.os e' (RT.int .u8)).val M w v xs fp) (hx : ρ x = v) :
    Yv P ρ ⟨d, .convert s t x, ty, pos, af, g⟩ w (.string (bstr xs)) w := by
  obtain ⟨css, fps, hrow, hl, _, _⟩ := Yx h;have hfl := zaG hl;unfold Yv;rcases hrow.2 with ⟨rfl, h0⟩ | ⟨gb, cap, cur, rfl, hb, hg, hnc, hcm, hcs, htake⟩
  · have : xs = [] := List.eq_nil_of_length_eq_zero h0;subst this;simp only [execOp, convert, hx, Sem.run_bind, run_underlying hs, run_underlying ht, run_underlying he, Result.andThen_ok, Conv.bytesToString, Sem.run_pure];rfl
  · have hc := run_loadCells_list (P := P) w ⟨gb, 0, none⟩ (xs.map (Value.int .u8)) (fun j u hj => by
      rw [← hfl] at hj;exact hrow.cells (g := gb) rfl j u hj)
    rw [List.length_map] at hc;have hr := run_bytesToString (P := P) w ⟨gb, 0, none⟩ xs.length cap xs hc;simp only [execOp, convert, hx, Sem.run_bind, run_underlying hs, run_underlying ht, run_underlying he, Result.andThen_ok, hr, Sem.run_pure];rfl

theorem zbk {a b : ByteArray} : (a == b) = true ↔ a = b := by
  cases a with | mk a => cases b with | mk b =>
  have : (ByteArray.mk a == ByteArray.mk b) = (a == b) := rfl;rw [this, beq_iff_eq];constructor
  · intro h; rw [h]
  · intro h; cases h; rfl
def mget {β : Type} : List (ByteArray × β) → ByteArray → Option β
  | [], _ => none
  | (k', v) :: m, k => if k == k' then some v else mget m k
def mput {β : Type} : List (ByteArray × β) → ByteArray → β → List (ByteArray × β)
  | [], k, v => [(k, v)]
  | (k', v') :: m, k, v => if k == k' then (k, v) :: m else (k', v') :: mput m k v
def relM {β : Type} (enc : β → Value) : List MapEntry → List (ByteArray × β) → Prop
  | [], [] => True
  | e :: es, p :: m => e.key = .string p.1 ∧ e.val = enc p.2 ∧ relM enc es m
  | _, _ => False
def RT.mo {β : Type} (enc : β → Value) : RT (List (ByteArray × β)) where
  sz := 1
  agg := false
  rel := fun _ w cs m fp => ∃ b es clock, cs = [.map (some b)] ∧ fp = [b] ∧ w.heap[b]? = some (.map es clock) ∧ relM enc es.toList m
  len := by rintro M w cs x fp ⟨_, _, _, rfl, _⟩; rfl
  one := by rintro M w cs x fp ⟨_, _, _, rfl, _⟩ c hc; simp at hc; subst hc; rfl
  fpl := by
    rintro M w cs x fp ⟨b, _, _, _, rfl, hb, _⟩ g hg;simp at hg; subst hg;exact (Array.getElem?_eq_some_iff.1 hb).1
  mono := by
    rintro M M' w w' cs x fp G ⟨b, es, clock, rfl, rfl, hb, hr⟩ hc _ hf _;exact ⟨b, es, clock, rfl, rfl, (hc.block b (Array.getElem?_eq_some_iff.1 hb).1 (fun h => hf b h (by simp))).trans hb, hr⟩
def RT.mr {β : Type} (enc : β → Value) : RT (List (ByteArray × β)) where
  sz := 1
  agg := false
  rel := fun M w cs m fp => ∃ b es clock, cs = [.map (some b)] ∧ fp = [] ∧ ¬ M b ∧ w.heap[b]? = some (.map es clock) ∧ relM enc es.toList m
  len := by rintro M w cs x fp ⟨_, _, _, rfl, _⟩; rfl
  one := by rintro M w cs x fp ⟨_, _, _, rfl, _⟩ c hc; simp at hc; subst hc; rfl
  fpl := by rintro M w cs x fp ⟨_, _, _, _, rfl, _⟩ g hg; cases hg
  mono := by
    rintro M M' w w' cs x fp G ⟨b, es, clock, rfl, rfl, hM, hb, hr⟩ hc hG _ hM';have hlt := (Array.getElem?_eq_some_iff.1 hb).1;refine ⟨b, es, clock, rfl, rfl, fun h => ?_, (hc.block b hlt (fun h => ?_)).trans hb, hr⟩
    · rcases hM' b h with h | h
      · exact hM h
      · omega
    · rcases hG b h with h | h
      · exact hM h
      · omega
section
variable {P : Program} {β : Type} {enc : β → Value} {M M' : Nat → Prop} {w w' : World} {v : Value} {m : List (ByteArray × β)} {fp : List Nat} {t k e : TypeId} {key : ByteArray}
theorem Frz.mo : Frz (RT.mo enc) (RT.mr enc) := ⟨rfl, rfl, fun {M M' w cs x fp} ⟨b, es, clock, h1, h2, h3, h4⟩ _ hd => ⟨b, es, clock, h1, rfl, hd b (by simp [h2]), h3, h4⟩⟩
theorem Free.mo : (RT.mo enc).Free := fun h => h
def MapAt {β : Type} (enc : β → Value) (w : World) (v : Value) (m : List (ByteArray × β)) : Prop := ∃ b es clock, v = .map (some b) ∧ w.heap[b]? = some (.map es clock) ∧ relM enc es.toList m
theorem mo_at (h : (RT.mo enc).val M w v m fp) : MapAt enc w v m := by
  obtain ⟨_, rfl, b, es, clock, rfl, _, h1, h2⟩ := h; exact ⟨b, es, clock, rfl, h1, h2⟩
theorem UT (h : (RT.mo enc).val M w v m fp) : (RT.mo enc).rel M w [v] m fp := by
  obtain ⟨cs, rfl, h⟩ := h;obtain ⟨b, es, clock, rfl, _⟩ := id h;exact h
theorem zcm : ∀ {es : List MapEntry} {m : List (ByteArray × β)} (i : Nat), relM enc es m → Instr.findNow .string (.string key) es i = some ((mget m key).map fun x => (i + (m.findIdx fun p => key == p.1), enc x))
  | [], [], _, _ => rfl
  | [], _ :: _, _, h => h.elim
  | _ :: _, [], _, h => h.elim
  | a :: es, (k', x) :: m, i, h => by
    obtain ⟨h1, h2, h3⟩ := h;simp only at h1 h2;unfold Instr.findNow;rw [h1];simp only [Instr.sameNow, mget, List.findIdx_cons];cases hk : (key == k') with
    | true => simp [h2]
    | false =>
      simp only [Bool.false_eq_true, if_false];rw [zcm (i + 1) h3];cases mget m key with
      | none => rfl
      | some x => simp; omega

theorem Wt {r : Nat} {es : Array MapEntry} {clock : Nat} (hb : w.heap[r]? = some (.map es clock)) : (getObj r).run P w = .ok (.map es clock) w := by simp [getObj, Sem.run, hb]
theorem UD {r : Nat} {es : Array MapEntry} {clock : Nat} (o : Obj) (hb : w.heap[r]? = some (.map es clock)) : (setObj r o).run P w = .ok () { w with heap := w.heap.setIfInBounds r o } := by simp [setObj, Sem.run, hb]
theorem WX {es : List MapEntry} (hk : P.underlying k = some .string) (h : relM enc es m) : (Instr.findKey k (.string key) es).run P w = .ok ((mget m key).map fun x => ((m.findIdx fun p => key == p.1), enc x)) w := by
  unfold Instr.findKey;simp only [Sem.run_bind, run_underlying hk, Result.andThen_ok];rw [zcm 0 h];simp [Sem.run_pure]
theorem XW {b : Bool} (hk : P.underlying k = some .string) : (Instr.checkKey b 10000 k (.string key)).run P w = .ok () w := by
  show (Instr.checkKey b (9999 + 1) k (.string key)).run P w = _;unfold Instr.checkKey;simp only [Sem.run_bind, run_underlying hk, Result.andThen_ok, Sem.run_pure]
theorem y_look {ρ : Operand → Value} {d : Option Tmp} {ty : TypeId} {pos : String} {af : Array Edge} {g : Option (Nat × Bool)} {x y : Operand} {z : β} (ht : P.underlying t = some (.map k e)) (hk : P.underlying k = some .string) (hz : ∀ w, (zeroValue e).run P w = .ok (enc z) w)
    (h : MapAt enc w v m) (hx : ρ x = v) (hy : ρ y = .string key) : Yv P ρ ⟨d, .lookup t x y false, ty, pos, af, g⟩ w (enc ((mget m key).getD z)) w := by
  obtain ⟨b, es, clock, rfl, hb, hr⟩ := h;have hf := WX (w := w) (key := key) hk hr;unfold Yv;simp only [execOp, Instr.lookup, hx, hy, Sem.run_bind, run_underlying ht, Result.andThen_ok, Wt hb, Sem.run_pure, XW hk, hf];cases mget m key with
  | none => simp [hz, Result.andThen]
  | some q => simp
theorem y_look2 {ρ : Operand → Value} {d : Option Tmp} {ty : TypeId} {pos : String} {af : Array Edge} {g : Option (Nat × Bool)} {x y : Operand} {z : β} (ht : P.underlying t = some (.map k e)) (hk : P.underlying k = some .string) (hz : ∀ w, (zeroValue e).run P w = .ok (enc z) w)
    (h : MapAt enc w v m) (hx : ρ x = v) (hy : ρ y = .string key) : Yv P ρ ⟨d, .lookup t x y true, ty, pos, af, g⟩ w (.tuple #[enc ((mget m key).getD z), .bool (mget m key).isSome]) w := by
  obtain ⟨b, es, clock, rfl, hb, hr⟩ := h;have hf := WX (w := w) (key := key) hk hr;unfold Yv;simp only [execOp, Instr.lookup, hx, hy, Sem.run_bind, run_underlying ht, Result.andThen_ok, Wt hb, Sem.run_pure, XW hk, hf];cases mget m key with
  | none => simp [hz, Result.andThen]
  | some q => simp

theorem relM.put : ∀ {es : List MapEntry} {m : List (ByteArray × β)} {x : β}, relM enc es m → mget m key = none → ∀ c, relM enc (es ++ [{ key := .string key, val := enc x, born := c }]) (mput m key x)
  | [], [], _, _, _, _ => ⟨rfl, rfl, trivial⟩
  | [], _ :: _, _, h, _, _ => h.elim
  | _ :: _, [], _, h, _, _ => h.elim
  | a :: es, (k', y) :: m, x, ⟨h1, h2, h3⟩, hn, c => by
    unfold mget at hn;cases hk : (key == k') with
    | true => rw [hk] at hn; simp at hn
    | false =>
      rw [hk] at hn;unfold mput;rw [hk];exact ⟨h1, h2, relM.put h3 (by simpa using hn) c⟩
theorem relM.mod : ∀ {es : List MapEntry} {m : List (ByteArray × β)} {x : β}, relM enc es m → (mget m key).isSome = true → relM enc (es.modify (m.findIdx fun p => key == p.1) fun a => { a with key := .string key, val := enc x }) (mput m key x)
  | [], [], _, _, hs => by cases hs
  | [], _ :: _, _, h, _ => h.elim
  | _ :: _, [], _, h, _ => h.elim
  | a :: es, (k', y) :: m, x, ⟨h1, h2, h3⟩, hs => by
    unfold mget at hs;unfold mput;rw [List.findIdx_cons];cases hk : (key == k') with
    | true => simpa using ⟨rfl, rfl, h3⟩
    | false =>
      rw [hk] at hs;have := relM.mod (x := x) h3 (by simpa using hs);simpa using ⟨h1, h2, this⟩
theorem relM.keyAt : ∀ {es : List MapEntry} {m : List (ByteArray × β)}, relM enc es m → (mget m key).isSome = true → (es[m.findIdx fun p => key == p.1]?).map (·.key) = some (.string key)
  | [], [], _, hs => by cases hs
  | [], _ :: _, h, _ => h.elim
  | _ :: _, [], h, _ => h.elim
  | a :: es, (k', y) :: m, ⟨h1, h2, h3⟩, hs => by
    unfold mget at hs;rw [List.findIdx_cons];cases hk : (key == k') with
    | true =>
      have : key = k' := zbk.1 hk;simp [h1, this]
    | false =>
      rw [hk] at hs;have := relM.keyAt h3 (by simpa using hs);simpa using this
theorem Wq {x : β} (ht : P.underlying t = some (.map k e)) (hk : P.underlying k = some .string) (h : (RT.mo enc).val M w v m fp) :
    ∃ w', (Instr.mapUpdate t v (.string key) (enc x)).run P w = .ok () w' ∧ Chg fp w w' ∧ (RT.mo enc).val M w' v (mput m key x) fp := by
  obtain ⟨_, rfl, b, es, clock, rfl, rfl, hb, hr⟩ := h;have hf := WX (w := w) (key := key) hk hr;have fin : ∀ o, Chg [b] w { w with heap := w.heap.setIfInBounds b o } := fun o => ⟨rfl, rfl, rfl, by simp, fun q _ hq => by
    rw [Array.getElem?_setIfInBounds_ne (fun e => hq (by simp [e]))]⟩
  have hlt := (Array.getElem?_eq_some_iff.1 hb).1;have hv : mkV (RT.mo enc).agg [Value.map (some b)] = .map (some b) := rfl;rw [hv];cases hg : mget m key with
  | none =>
    rw [hg] at hf;refine ⟨{ w with heap := w.heap.setIfInBounds b (.map (es.push { key := .string key, val := enc x, born := clock }) (clock + 1)) }, ?_, fin _, _, rfl, b, _, _, rfl, rfl, by rw [Array.getElem?_setIfInBounds_self_of_lt hlt], ?_⟩
    · simp only [Instr.mapUpdate, Sem.run_bind, run_underlying ht, Result.andThen_ok, Wt hb, XW hk, hf, Option.map_none, UD _ hb]
    · simpa using hr.put hg clock
  | some q =>
    rw [hg] at hf;have hs : (mget m key).isSome = true := by rw [hg]; rfl
    have hkk := hr.keyAt hs;have hkk' : ((es[m.findIdx fun p => key == p.1]?).map (·.key)).getD (Value.string key) = .string key := by
      rw [← Array.getElem?_toList, hkk]; rfl
    refine ⟨{ w with heap := w.heap.setIfInBounds b (.map (es.modify (m.findIdx fun p => key == p.1) fun a => { a with key := .string key, val := enc x }) clock) }, ?_, fin _, _, rfl, b, _, _, rfl, rfl, by rw [Array.getElem?_setIfInBounds_self_of_lt hlt], ?_⟩
    · simp only [Instr.mapUpdate, Sem.run_bind, run_underlying ht, Result.andThen_ok, Wt hb, XW hk, hf, Option.map_some, hkk'];have : (Instr.keyThatStays (.string key) (.string key)).run P w = .ok (.string key) w := by
        unfold Instr.keyThatStays;rw [if_pos (by show Instr.sameBits (9999 + 1) _ _ = true; unfold Instr.sameBits; exact zbk.2 rfl)];rfl
      rw [this];simp only [Result.andThen_ok, UD _ hb]
    · simpa [Array.toList_modify] using hr.mod (x := x) hs
theorem zbz (w : World) : ∃ w' b, w' = w.alloc (.map #[] 0) ∧ b = w.heap.size ∧ Chg [] w w' ∧ (RT.mo enc).val M w' (.map (some b)) [] [b] :=
  ⟨_, _, rfl, rfl, Chg.alloc w _, _, rfl, _, #[], 0, rfl, rfl, heap_alloc_new w _, trivial⟩
theorem zdl {ρ : Operand → Value} {d : Option Tmp} {ty : TypeId} {pos : String} {af : Array Edge} {g : Option (Nat × Bool)} : Yv P ρ ⟨d, .makeMap t none, ty, pos, af, g⟩ w (.map (some w.heap.size)) (w.alloc (.map #[] 0)) := by
  unfold Yv; simp [execOp, Instr.makeMap, Result.andThen]
theorem ys_put {ρ : Operand → Value} {d : Option Tmp} {ty : TypeId} {pos : String} {af : Array Edge} {g : Option (Nat × Bool)} {x y z : Operand} {a b c : Value} (hx : ρ x = a) (hy : ρ y = b) (hz : ρ z = c) (h : (Instr.mapUpdate t a b c).run P w = .ok () w') : Ys P ρ ⟨d, .mapUpdate t x y z, ty, pos, af, g⟩ w w' := by
  unfold Ys execOp; simp [hx, hy, hz, h]
theorem vO {ρ : Operand → Value} {d : Option Tmp} {ty : TypeId} {pos : String} {af : Array Edge} {g : Option (Nat × Bool)} {x y z : Operand} {a b c : Value} (hx : ρ x = a) (hy : ρ y = b) (hz : ρ z = c) (h : (Instr.mapUpdate t a b c).run P w = .ok () w') : Ys P ρ ⟨d, .insert t x y z, ty, pos, af, g⟩ w w' := by
  unfold Ys execOp; simp [hx, hy, hz, h]
end
def idxs (s : ByteArray) (i : Int) : Option Int := if h : 0 ≤ i ∧ i < s.size then some ((s[i.toNat]'(by omega)).toNat : Int) else none
theorem zdf {P : Program} {ρ : Operand → Value} {w : World} {d : Option Tmp} {ty t : TypeId} {pos : String} {af : Array Edge} {g : Option (Nat × Bool)} {x : Operand} {s : ByteArray} (ht : P.underlying t = some .string) (h : ρ x = .string s) :
    Yv P ρ ⟨d, .call { callee := .builtin .len, args := #[x], argTypes := #[t] }, ty, pos, af, g⟩ w (.int .i64 (s.size : Int)) w := by
  unfold Yv execOp;simp [resolve, invoke, builtin, h, Builtin.len_, run_underlying ht, goInt]
theorem y_idxS {P : Program} {ρ : Operand → Value} {w : World} {d : Option Tmp} {ty t : TypeId} {pos : String} {af : Array Edge} {g : Option (Nat × Bool)} {x y : Operand} {s : ByteArray} {k : IntKind} {i v : Int} (ht : P.underlying t = some .string) (hi : idxs s i = some v) (h : ρ x = .string s) (h' : ρ y = .int k i) :
    Yv P ρ ⟨d, .index t x y, ty, pos, af, g⟩ w (.int .u8 v) w := by
  unfold idxs at hi;split at hi
  · rename_i hb;cases hi;unfold Yv execOp;simp [h, h', run_index_string w t s k i ht, hb]
  · cases hi
end Go.G
