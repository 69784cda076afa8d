/- Lemmas on the model and on plain lists: a part of the proof. No conditions. -/
import Derived.Test.YtlfpejnpjpmejaaGreatDoorGCtl
set_option linter.unusedVariables false
namespace Go.G
open Go.RowKit

section
variable {P : Program} {ops : Array Oper} {Q : Exit → Act → World → Prop} {S : World → Prop} {T : List Nat}

def preB (ops : Array Oper) (i : Nat) : Nat → Nat → Bool
  | 0, _ => false
  | f + 1, j => match ops[j]? with
    | some o => o.after.any fun e => Region.binds .any e && (e.on == i || preB ops i f e.on)
    | none => false

def Closed (ops : Array Oper) (listed : Array Bool) : Prop := ∀ k o, ops[k]? = some o → listed.getD k true = true → ∀ e ∈ o.after, Region.binds .any e = true → listed.getD e.on false = true

theorem Closed.set {listed : Array Bool} {j : Nat} (h : Closed ops listed) (hj : j ∈ Region.ready .any ops listed) : Closed ops (listed.setIfInBounds j true) := by
  intro k o ho hk e he hb;by_cases hkj : j = k
  · subst hkj;obtain ⟨_, o', ho', hall⟩ := mem_ready.1 hj;rw [ho] at ho'; cases ho';exact getD_set_true (hall e he hb)
  · rw [getD_set_ne true hkj] at hk;exact getD_set_true (h k o ho hk e he hb)

theorem zav {listed : Array Bool} (hc : Closed ops listed) (i : Nat) : ∀ (f k : Nat), preB ops i f k = true → (∀ o, ops[k]? = some o → ∀ e ∈ o.after, Region.binds .any e = true → listed.getD e.on false = true) → listed.getD i false = true := by
  intro f
  induction f with
  | zero => intro k h; simp [preB] at h
  | succ f ih =>
    intro k h hall;simp only [preB] at h;cases ho : ops[k]? with
    | none => rw [ho] at h; cases h
    | some o =>
      rw [ho] at h;simp only [Array.any_eq_true', Bool.and_eq_true, Bool.or_eq_true, beq_iff_eq] at h;obtain ⟨e, he, hb, hor⟩ := h;have hl := hall o ho e he hb;rcases hor with rfl | hp
      · exact hl
      · refine ih e.on hp fun o' ho' e' he' hb' => ?_
        refine hc e.on o' ho' ?_ e' he' hb';have hlt : e.on < listed.size := by
          rcases Nat.lt_or_ge e.on listed.size with h' | h'
          · exact h'
          · simp [h'] at hl
        simp [hlt] at hl ⊢;exact hl

def wM (P : Program) (ops : Array Oper) (Q : Exit → Act → World → Prop) (S : World → Prop) (T : List Nat) : Nat → Bool → Array Bool → Act → World → Prop
  | 0, _, listed, a, w => Region.ready .any ops listed = [] ∧ Q .normal a w
  | fuel + 1, tl, listed, a, w =>
    (Region.ready .any ops listed = [] → Q .normal a w) ∧
    ∀ i ∈ Region.ready .any ops listed, wpOp P ops Q i (fun a' w' => ((tl || T.contains i) = false → S w') ∧ wM P ops Q S T fuel (tl || T.contains i) (listed.setIfInBounds i true) a' w') a w

theorem Ur : ∀ (fuel : Nat) (tl : Bool) (listed : Array Bool) (a : Act) (w : World), wM P ops Q S T fuel tl listed a w → wpAny P .any ops Q fuel listed a w
  | 0, _, _, _, _, h => h
  | fuel + 1, _, _, _, _, h => ⟨h.1, fun i hi => wpOp_mono (fun a' w' h' => Ur fuel _ _ a' w' h'.2) (h.2 i hi)⟩

def YIf (P : Program) (ops : Array Oper) (C : World → Prop) (o : Oper) (v : Value) (a : Act) : Prop :=
  (Region.wanted o (yielded ops a.tmps) = true ∧ ∀ w, C w → (execOp a.eval o).run P w = .ok (.value v) w) ∨
  (Region.wanted o (yielded ops a.tmps) = false ∧ v = undef)

theorem YIf.wpOp {C : World → Prop} {i : Nat} {o : Oper} {v : Value} {a : Act} (hi : ops[i]? = some o) (hy : YIf P ops C o v a) {K : Act → World → Prop} {w : World} (hC : C w) (h : K (a.put o.dst v) w) : wpOp P ops Q i K a w := by
  unfold Go.wpOp;simp only [hi];rcases hy with ⟨hw, hv⟩ | ⟨hw, rfl⟩
  · simp only [hw, if_true, Oper.wp, hv w hC, Oper.upon]; exact .inl h
  · simp only [hw, Bool.false_eq_true, if_false]; exact h

theorem YIf.of_same {C : World → Prop} {o : Oper} {v : Value} {a a' : Act} (hy : YIf P ops C o v a) (he : execOp a'.eval o = execOp a.eval o)
    (hw : Region.wanted o (yielded ops a'.tmps) = Region.wanted o (yielded ops a.tmps)) : YIf P ops C o v a' := by
  unfold YIf at *;rw [he, hw];exact hy

theorem wpOp_put {C : World → Prop} {j : Nat} {oi oj : Oper} {v : Value} (hj : ops[j]? = some oj) (hap : oi.apart ops oj = true)
    (hsi : ∀ cs b, oi.op ≠ .select cs b) (hsj : ∀ cs b, oj.op ≠ .select cs b)
    (hQ : ∀ c a w, Q (.panic c) (a.put oi.dst v) w → Q (.panic c) a w) {K : Act → World → Prop} {a : Act} {w : World}
    (hy : YIf P ops C oi v a) (h : wpOp P ops Q j K (a.put oi.dst v) w) :
    wpOp P ops Q j (fun a' w' => YIf P ops C oi v a' ∧ K (a'.put oi.dst v) w') a w := by
  obtain ⟨h1, h2, h3⟩ := Oper.apart_spec hap;have keep : ∀ (a : Act), YIf P ops C oi v a → ∀ u, YIf P ops C oi v (a.put oj.dst u) := fun a hy u =>
    hy.of_same (execOp_put oi hsi a oj.dst u h3) (wanted_put oi a oj.dst u h3)
  have keepD : ∀ d, YIf P ops C oi v { a with defers := d :: a.defers } := fun d => hy.of_same rfl rfl
  unfold wpOp at *;simp only [hj] at *;rw [wanted_put oj a oi.dst v h1] at h;split
  · rename_i hw;simp only [hw, if_true] at h;rcases h with h | ⟨hasks, hlets⟩
    case inr => exact .inr ⟨by unfold Oper.asks at *; rw [execOp_put oj hsj a oi.dst v h1] at hasks; exact hasks, hlets⟩
    refine .inl ?_;unfold Oper.wp at *;rw [execOp_put oj hsj a oi.dst v h1] at h;generalize (execOp a.eval oj).run P w = r at *;cases r with
    | ok n w' =>
      cases n <;> simp only [Oper.upon] at h ⊢
      case value u => exact ⟨keep a hy u, by rw [← Act.put_comm a v u h2]; exact h⟩
      case skip => exact ⟨keep a hy _, by rw [← Act.put_comm a v undef h2]; exact h⟩
      case defer d =>
        refine ⟨keep _ (keepD d) _, ?_⟩;rw [← Act.put_comm _ v undef h2, ← Act.put_defers];exact h
      case enter f args =>
        refine Calls.mono h fun e w'' he => ?_
        cases e with
        | returned u => exact ⟨keep a hy u, by rw [← Act.put_comm a v u h2]; exact he⟩
        | panicked c => exact hQ _ _ _ he
        | outgrown => exact he
      case row row args => exact Rows.mono h fun u w'' he => ⟨keep a hy u, by rw [← Act.put_comm a v u h2]; exact he⟩
    | halt x w' =>
      cases x <;> simp only [Oper.upon] at h ⊢
      case panic u => exact hQ _ _ _ h
  · rename_i hw;simp only [hw] at h;exact ⟨keep a hy _, by rw [← Act.put_comm a v undef h2]; exact h⟩

theorem zbF {ld : Bool} {i : Nat} {oi : Oper} {v : Value} (hi : ops[i]? = some oi) (hsel : ∀ (j : Nat) (o : Oper) cs b, ops[j]? = some o → o.op ≠ .select cs b)
    (hQ : ∀ c a w, Q (.panic c) (a.put oi.dst v) w → Q (.panic c) a w) (hiT : T.contains i = false) (hT : ld = true → ∀ j ∈ T, preB ops i ops.size j = true) :
    ∀ (fuel : Nat) (tl : Bool) (listed : Array Bool) (a : Act) (w : World), Closed ops listed →
      (∀ j oj, ops[j]? = some oj → j ≠ i → listed.getD j true = false → (∀ e ∈ oj.after, Region.binds .any e = true → e.on ≠ i) → oi.apart ops oj = true) →
      i ∈ Region.ready .any ops listed → YIf P ops (fun w => ld = true → S w) oi v a → (ld = true → tl = false) → (tl = false → S w) →
      wM P ops Q S T fuel (tl || T.contains i) (listed.setIfInBounds i true) (a.put oi.dst v) w → wM P ops Q S T (fuel + 1) tl listed a w := by
  intro fuel
  induction fuel with
  | zero =>
    intro tl listed a w hcl _ hr hy htl hS H;refine ⟨fun h => (by rw [h] at hr; cases hr), fun j hj => ?_⟩;by_cases hji : j = i
    · subst hji;exact hy.wpOp hi (fun hl => hS (htl hl)) ⟨fun h => hS (by simp at h; exact h.1), H⟩
    · have := ready_mono hj hji;rw [H.1] at this;cases this
  | succ fuel ih =>
    intro tl listed a w hcl hfree hr hy htl hS H;refine ⟨fun h => (by rw [h] at hr; cases hr), fun j hj => ?_⟩;by_cases hji : j = i
    · subst hji;exact hy.wpOp hi (fun hl => hS (htl hl)) ⟨fun h => hS (by simp at h; exact h.1), H⟩
    · have h1 := H.2 j (ready_mono hj hji);obtain ⟨hjun, oj, hoj, hall⟩ := mem_ready.1 hj;have hi0 := (mem_ready.1 hr).1;have hnl : listed.getD i false = false := by
        rcases Nat.lt_or_ge i listed.size with h' | h'
        · simpa [h'] using hi0
        · simp [h']
      have hnot : ∀ e ∈ oj.after, Region.binds .any e = true → e.on ≠ i := fun e he hb heq => by
        have h1 := hall e he hb;rw [heq, hnl] at h1; cases h1
      have hjT : ld = true → T.contains j = false := fun hl => by
        cases hc : T.contains j with
        | false => rfl
        | true =>
          have hp := hT hl j (by simpa using hc);have := zav hcl i _ _ hp (fun o ho => by rw [hoj] at ho; cases ho; exact hall);rw [hnl] at this; cases this
      have h2 := wpOp_put hoj (hfree j oj hoj hji hjun hnot) (fun cs b => hsel i oi cs b hi) (fun cs b => hsel j oj cs b hoj) hQ hy h1;have hfree' : ∀ k ok, ops[k]? = some ok → k ≠ i → (listed.setIfInBounds j true).getD k true = false →
          (∀ e ∈ ok.after, Region.binds .any e = true → e.on ≠ i) → oi.apart ops ok = true := fun k ok hk hki hun hno => by
        refine hfree k ok hk hki ?_ hno;by_cases hjk : j = k
        · subst hjk; exact hjun
        · rw [getD_set_ne true hjk] at hun; exact hun
      refine wpOp_mono (fun a' w' h3 => ?_) h2;obtain ⟨hy', hS', h4⟩ := h3;have htl' : ld = true → (tl || T.contains j) = false := fun hl => by rw [htl hl, hjT hl]; rfl
      have hS'' : (tl || T.contains j) = false → S w' := fun h => hS' (by rw [hiT, Bool.or_false]; exact h)
      refine ⟨hS'', ih (tl || T.contains j) (listed.setIfInBounds j true) a' w' (hcl.set hj) hfree' (ready_mono hr (Ne.symm hji)) hy' htl' hS'' ?_⟩;rw [Array.setIfInBounds_comm _ _ hji, Bool.or_assoc, Bool.or_comm (T.contains j), ← Bool.or_assoc];exact h4

def NP (Q : Exit → Act → World → Prop) : Exit → Act → World → Prop
  | .normal, a, w => Q .normal a w
  | _, _, _ => False

theorem NP.imp {Q : Exit → Act → World → Prop} (e : Exit) (a : Act) (w : World) (h : NP Q e a w) : Q e a w := by
  cases e <;> first | exact h | exact (h : False).elim

def X (P : Program) (ops : Array Oper) (Q : Exit → Act → World → Prop) (S : World → Prop) (T : List Nat) (fuel : Nat) (tl : Bool) (listed : Array Bool) (a : Act) (w : World) : Prop :=
  Closed ops listed → wM P ops (NP Q) S T fuel tl listed a w

theorem zbn (l : List Oper) : Closed l.toArray (Array.replicate l.length false) := by
  intro k o ho hk;have hlt : k < l.length := by
    have := (Array.getElem?_eq_some_iff.1 ho).1;simpa using this
  simp [hlt] at hk

theorem Za {id : Nat} {l : List Oper} {n : Nat} {a : Act} {w : World} (T : List Nat) (hm : P.follows .mixedOrders = true) (hn : l.length = n)
    (h : X P l.toArray Q (Chg [] w.drew) T n false (Array.replicate n false) a w.drew) : (Code.region id l.toArray true).wp P Q a w := by
  subst hn;refine wp_mono ?_ NP.imp;have h' := Ur _ _ _ _ _ (h (zbn l));refine wp_region_any hm ?_;simp only [List.size_toArray];exact h'

def chkF (ops : Array Oper) (T : List Nat) (listed : Array Bool) (i : Nat) (ld : Bool) : Bool :=
  Region.noSelect ops && Region.free .any ops listed i && (Region.ready .any ops listed).contains i && !T.contains i && (!ld || T.all (preB ops i ops.size))
def chkK (ops : Array Oper) (listed : Array Bool) (i : Nat) : Bool := Region.ready .any ops listed == [i]
def chkK2 (ops : Array Oper) (listed : Array Bool) (i j : Nat) : Bool := Region.ready .any ops listed == [i, j]

variable {fuel n d i : Nat} {tl : Bool} {listed : Array Bool} {σ : Nat → Value} {w : World} {op : Op} {ty : TypeId} {pos : String} {af : Array Edge} {g : Option (Nat × Bool)} {v : Value}

theorem vj {ld : Bool} {oi : Oper} {a : Act} (hi : ops[i]? = some oi) (hc : chkF ops T listed i ld = true) (hy : YIf P ops (fun w => ld = true → S w) oi v a) (htl : ld = true → tl = false) (hS : tl = false → S w)
    (h : X P ops Q S T fuel tl (listed.setIfInBounds i true) (a.put oi.dst v) w) : X P ops Q S T (fuel + 1) tl listed a w := by
  simp only [chkF, Bool.and_eq_true, Bool.not_eq_true', Bool.or_eq_true] at hc;obtain ⟨⟨⟨⟨h1, h2⟩, h3⟩, h4⟩, h5⟩ := hc;intro hcl;have hr : i ∈ Region.ready .any ops listed := by simpa using h3
  refine zbF hi (Region.noSelect_spec h1) (fun _ _ _ h => h) h4 (fun hl => ?_) fuel tl listed a w hcl (Region.free_spec hi h2) hr hy htl hS ?_
  · subst hl;rcases h5 with h5 | h5
    · cases h5
    · exact List.all_eq_true.1 h5
  · rw [h4, Bool.or_false];exact h (hcl.set hr)

theorem x_p (i : Nat) (v : Value) (hi : ops[i]? = some ⟨some d, op, ty, pos, af, none⟩) (hc : chkF ops T listed i false = true) (hy : ∀ w, Yv P (ev n σ) ⟨some d, op, ty, pos, af, none⟩ w v w) (hS : tl = false → S w)
    (h : X P ops Q S T fuel tl (listed.setIfInBounds i true) (fr n (upd σ d v)) w) : X P ops Q S T (fuel + 1) tl listed (fr n σ) w :=
  vj hi hc (.inl ⟨rfl, fun w _ => by rw [yL]; exact hy w⟩) (fun h => by cases h) hS (by rw [YP]; exact h)
theorem x_py (i : Nat) (v : Value) {j tg : Nat} {want : Bool} (hi : ops[i]? = some ⟨some d, op, ty, pos, af, some (j, want)⟩) (hc : chkF ops T listed i false = true) (hj : (ops[j]?).bind (·.dst) = some tg) (hg : ev n σ (.tmp tg) = .bool want)
    (hy : ∀ w, Yv P (ev n σ) ⟨some d, op, ty, pos, af, some (j, want)⟩ w v w) (hS : tl = false → S w)
    (h : X P ops Q S T fuel tl (listed.setIfInBounds i true) (fr n (upd σ d v)) w) : X P ops Q S T (fuel + 1) tl listed (fr n σ) w :=
  vj hi hc (.inl ⟨by simp [Region.wanted, Yw hj hg], fun w _ => by rw [yL]; exact hy w⟩) (fun h => by cases h) hS (by rw [YP]; exact h)
theorem x_pn (i : Nat) {j tg : Nat} {want : Bool} (hi : ops[i]? = some ⟨some d, op, ty, pos, af, some (j, want)⟩) (hc : chkF ops T listed i false = true) (hj : (ops[j]?).bind (·.dst) = some tg) (hg : ev n σ (.tmp tg) = .bool (!want)) (hS : tl = false → S w)
    (h : X P ops Q S T fuel tl (listed.setIfInBounds i true) (fr n (upd σ d undef)) w) : X P ops Q S T (fuel + 1) tl listed (fr n σ) w :=
  vj hi hc (.inr ⟨by simp [Region.wanted, Yw hj hg], rfl⟩) (fun h => by cases h) hS (by rw [YP]; exact h)
theorem x_l (i : Nat) (v : Value) (hi : ops[i]? = some ⟨some d, op, ty, pos, af, none⟩) (hc : chkF ops T listed i true = true) (hy : ∀ w, S w → Yv P (ev n σ) ⟨some d, op, ty, pos, af, none⟩ w v w) (hS : S w)
    (h : X P ops Q S T fuel false (listed.setIfInBounds i true) (fr n (upd σ d v)) w) : X P ops Q S T (fuel + 1) false listed (fr n σ) w :=
  vj hi hc (.inl ⟨rfl, fun w hw => by rw [yL]; exact hy w (hw rfl)⟩) (fun _ => rfl) (fun _ => hS) (by rw [YP]; exact h)
theorem x_ly (i : Nat) (v : Value) {j tg : Nat} {want : Bool} (hi : ops[i]? = some ⟨some d, op, ty, pos, af, some (j, want)⟩) (hc : chkF ops T listed i true = true) (hj : (ops[j]?).bind (·.dst) = some tg) (hg : ev n σ (.tmp tg) = .bool want)
    (hy : ∀ w, S w → Yv P (ev n σ) ⟨some d, op, ty, pos, af, some (j, want)⟩ w v w) (hS : S w)
    (h : X P ops Q S T fuel false (listed.setIfInBounds i true) (fr n (upd σ d v)) w) : X P ops Q S T (fuel + 1) false listed (fr n σ) w :=
  vj hi hc (.inl ⟨by simp [Region.wanted, Yw hj hg], fun w hw => by rw [yL]; exact hy w (hw rfl)⟩) (fun _ => rfl) (fun _ => hS) (by rw [YP]; exact h)

theorem zN {a : Act} (hc : chkK ops listed i = true) (h : Closed ops listed → Closed ops (listed.setIfInBounds i true) → wpOp P ops (NP Q) i (fun a' w' => ((tl || T.contains i) = false → S w') ∧ wM P ops (NP Q) S T fuel (tl || T.contains i) (listed.setIfInBounds i true) a' w') a w) :
    X P ops Q S T (fuel + 1) tl listed a w := by
  intro hcl;have hr : Region.ready .any ops listed = [i] := by simpa [chkK] using hc
  refine ⟨fun h => (by rw [hr] at h; cases h), fun j hj => ?_⟩;have hi : i ∈ Region.ready .any ops listed := by rw [hr]; simp
  rw [hr] at hj;simp at hj; subst hj;exact h hcl (hcl.set hi)
theorem XR {a : Act} {j : Nat} (hc : chkK2 ops listed i j = true)
    (h : Closed ops listed → Closed ops (listed.setIfInBounds i true) → wpOp P ops (NP Q) i (fun a' w' => ((tl || T.contains i) = false → S w') ∧ wM P ops (NP Q) S T fuel (tl || T.contains i) (listed.setIfInBounds i true) a' w') a w)
    (h' : Closed ops listed → Closed ops (listed.setIfInBounds j true) → wpOp P ops (NP Q) j (fun a' w' => ((tl || T.contains j) = false → S w') ∧ wM P ops (NP Q) S T fuel (tl || T.contains j) (listed.setIfInBounds j true) a' w') a w) :
    X P ops Q S T (fuel + 1) tl listed a w := by
  intro hcl;have hr : Region.ready .any ops listed = [i, j] := by simpa [chkK2] using hc
  refine ⟨fun h => (by rw [hr] at h; cases h), fun k hk => ?_⟩;have hi : i ∈ Region.ready .any ops listed := by rw [hr]; simp
  have hj : j ∈ Region.ready .any ops listed := by rw [hr]; simp
  rw [hr] at hk;simp at hk;rcases hk with rfl | rfl
  · exact h hcl (hcl.set hi)
  · exact h' hcl (hcl.set hj)

abbrev XK (P : Program) (ops : Array Oper) (Q : Exit → Act → World → Prop) (S : World → Prop) (T : List Nat) (fuel : Nat) (tl : Bool) (listed : Array Bool) (i : Nat) (a : Act) (w : World) : Prop :=
  Closed ops listed → Closed ops (listed.setIfInBounds i true) → wpOp P ops (NP Q) i (fun a' w' => ((tl || T.contains i) = false → S w') ∧ wM P ops (NP Q) S T fuel (tl || T.contains i) (listed.setIfInBounds i true) a' w') a w

theorem zO (v : Value) {w' : World} {b : Bool} (hi : ops[i]? = some ⟨some d, op, ty, pos, af, none⟩) (hy : Yv P (ev n σ) ⟨some d, op, ty, pos, af, none⟩ w v w') (hb : (tl || T.contains i) = b) (hS : b = false → S w')
    (h : X P ops Q S T fuel b (listed.setIfInBounds i true) (fr n (upd σ d v)) w') : XK P ops Q S T fuel tl listed i (fr n σ) w := by
  intro _ hcl;unfold wpOp;simp only [hi, Region.wanted, if_true];refine .inl ?_;unfold Oper.wp;rw [yL, hy];simp only [Oper.upon];rw [YP, hb];exact ⟨hS, h hcl⟩
theorem xk_valy (v : Value) {w' : World} {b : Bool} {j tg : Nat} {want : Bool} (hi : ops[i]? = some ⟨some d, op, ty, pos, af, some (j, want)⟩) (hj : (ops[j]?).bind (·.dst) = some tg) (hg : ev n σ (.tmp tg) = .bool want) (hy : Yv P (ev n σ) ⟨some d, op, ty, pos, af, some (j, want)⟩ w v w')
    (hb : (tl || T.contains i) = b) (hS : b = false → S w')
    (h : X P ops Q S T fuel b (listed.setIfInBounds i true) (fr n (upd σ d v)) w') : XK P ops Q S T fuel tl listed i (fr n σ) w := by
  intro _ hcl;unfold wpOp;simp only [hi];rw [if_pos (by simp [Region.wanted, Yw hj hg])];refine .inl ?_;unfold Oper.wp;rw [yL, hy];simp only [Oper.upon];rw [YP, hb];exact ⟨hS, h hcl⟩
theorem YQ {w' : World} {b : Bool} (hi : ops[i]? = some ⟨none, op, ty, pos, af, none⟩) (hy : Ys P (ev n σ) ⟨none, op, ty, pos, af, none⟩ w w') (hb : (tl || T.contains i) = b) (hS : b = false → S w')
    (h : X P ops Q S T fuel b (listed.setIfInBounds i true) (fr n σ) w') : XK P ops Q S T fuel tl listed i (fr n σ) w := by
  intro _ hcl;unfold wpOp;simp only [hi, Region.wanted, if_true];refine .inl ?_;unfold Oper.wp;rw [yL, hy];simp only [Oper.upon];rw [hb];exact ⟨hS, h hcl⟩
theorem zV {f : FuncId} {xs : Array Operand} {ats : Array TypeId} {args : List Value} {R : Value → World → Prop} {b : Bool} (hi : ops[i]? = some ⟨some d, .call { callee := .value (.func f), args := xs, argTypes := ats }, ty, pos, af, none⟩) (hbd : zK P f)
    (ha : xs.toList.map (ev n σ) = args) (hc : Gives P f args w R) (hb : (tl || T.contains i) = b) (hS : b = false → ∀ v w', R v w' → S w')
    (h : ∀ v w', R v w' → X P ops Q S T fuel b (listed.setIfInBounds i true) (fr n (upd σ d v)) w') : XK P ops Q S T fuel tl listed i (fr n σ) w := by
  intro _ hcl;unfold wpOp;simp only [hi, Region.wanted, if_true];refine .inl ?_;unfold Oper.wp;rw [execOp_call_go];have e : (#[] ++ xs.map (fr n σ).eval ++ #[] : Array Value) = args.toArray := by
    rw [yL, ← ha]; apply Array.ext'; simp
  rw [e, hbd];simp only [Oper.upon];refine Calls.mono hc fun e w' ⟨v, he, hR⟩ => ?_
  subst he;rw [hb];show _ ∧ _;rw [YP];exact ⟨fun hbf => hS hbf v w' hR, h v w' hR hcl⟩
theorem xk_callv {Z : Operand} {f : FuncId} {xs : Array Operand} {ats : Array TypeId} {args : List Value} {R : Value → World → Prop} {b : Bool} (hi : ops[i]? = some ⟨some d, .call { callee := .value Z, args := xs, argTypes := ats }, ty, pos, af, none⟩) (h : ev n σ Z = .func (.func f) #[] #[]) (hbd : zK P f)
    (ha : xs.toList.map (ev n σ) = args) (hc : Gives P f args w R) (hb : (tl || T.contains i) = b) (hS : b = false → ∀ v w', R v w' → S w')
    (k : ∀ v w', R v w' → X P ops Q S T fuel b (listed.setIfInBounds i true) (fr n (upd σ d v)) w') : XK P ops Q S T fuel tl listed i (fr n σ) w := by
  intro _ hcl;unfold wpOp;simp only [hi, Region.wanted, if_true];refine .inl ?_;unfold Oper.wp;rw [yL, run_callv h hbd ha];simp only [Oper.upon];refine Calls.mono hc fun e w' ⟨v, he, hR⟩ => ?_
  subst he;rw [hb];show _ ∧ _;rw [YP];exact ⟨fun hbf => hS hbf v w' hR, k v w' hR hcl⟩
theorem WK {f : FuncId} {xs : Array Operand} {ats : Array TypeId} {args : List Value} {R : Value → World → Prop} {b : Bool} {j tg : Nat} {want : Bool}
    (hi : ops[i]? = some ⟨some d, .call { callee := .value (.func f), args := xs, argTypes := ats }, ty, pos, af, some (j, want)⟩) (hj : (ops[j]?).bind (·.dst) = some tg) (hg : ev n σ (.tmp tg) = .bool want) (hbd : zK P f)
    (ha : xs.toList.map (ev n σ) = args) (hc : Gives P f args w R) (hb : (tl || T.contains i) = b) (hS : b = false → ∀ v w', R v w' → S w')
    (h : ∀ v w', R v w' → X P ops Q S T fuel b (listed.setIfInBounds i true) (fr n (upd σ d v)) w') : XK P ops Q S T fuel tl listed i (fr n σ) w := by
  intro _ hcl;unfold wpOp;simp only [hi];rw [if_pos (by simp [Region.wanted, Yw hj hg])];refine .inl ?_;unfold Oper.wp;rw [execOp_call_go];have e : (#[] ++ xs.map (fr n σ).eval ++ #[] : Array Value) = args.toArray := by
    rw [yL, ← ha]; apply Array.ext'; simp
  rw [e, hbd];simp only [Oper.upon];refine Calls.mono hc fun e w' ⟨v, he, hR⟩ => ?_
  subst he;rw [hb];show _ ∧ _;rw [YP];exact ⟨fun hbf => hS hbf v w' hR, h v w' hR hcl⟩

theorem x_end {a : Act} (hr : (Region.ready .any ops listed).isEmpty = true) (h : Q .normal a w) : X P ops Q S T fuel tl listed a w := by
  intro _;have hr' : Region.ready .any ops listed = [] := by simpa using hr
  cases fuel with
  | zero => exact ⟨hr', h⟩
  | succ k => exact ⟨fun _ => h, by rw [hr']; simp⟩
end
end Go.G
