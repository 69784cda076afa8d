/- Lemmas on the model and on plain lists: a part of the proof. No conditions. -/
import Derived.Test.YtlfpejnpjpmejaaGreatDoorGUse
set_option linter.unusedVariables false
namespace Go.G
open Go.RowKit

def Gives (P : Program) (f : FuncId) (args : List Value) (w : World) (R : Value → World → Prop) : Prop :=
  Calls P f args.toArray w fun e w' => ∃ v, e = .returned v ∧ R v w'
theorem Gives.mono {P : Program} {f : FuncId} {args : List Value} {w : World} {R R' : Value → World → Prop} (h : Gives P f args w R) (hr : ∀ v w', R v w' → R' v w') : Gives P f args w R' :=
  Calls.mono h fun _ _ ⟨v, he, hR⟩ => ⟨v, he, hr v _ hR⟩

def zK (P : Program) (f : FuncId) : Prop := ∀ args w, (callFunc f args).run P w = .ok (.enter f args) w
theorem zP {P : Program} {f : FuncId} {fn : Func} (hf : P.funcs[f]? = some fn) (hn : (fn.name == "runtime.NumGoroutine") = false) (hb : fn.body.isNone = false) : zK P f := by
  intro args w;simp only [callFunc, Sem.run_bind, run_program, Result.andThen_ok, hf, hn, hb, Bool.false_eq_true, if_false, Sem.run_pure]

section
variable {P : Program} {ops : Array Oper} {Q : Exit → Act → World → Prop} {n : Nat} {σ : Nat → Value} {w : World}

theorem zC {f : FuncId} {d : Nat} {xs : Array Operand} {ats : Array TypeId} {ty : TypeId} {pos : String} {af : Array Edge} {rest : List Oper} {args : List Value} {R : Value → World → Prop} (hb : zK P f)
    (ha : xs.toList.map (ev n σ) = args) (hc : Gives P f args w R) (k : ∀ v w', R v w' → WL P ops Q rest (fr n (upd σ d v)) w') :
    WL P ops Q (⟨some d, .call { callee := .value (.func f), args := xs, argTypes := ats }, ty, pos, af, none⟩ :: rest) (fr n σ) w := by
  refine ⟨wpList_plain rfl fun K hK => ?_⟩;unfold Oper.wp;rw [execOp_call_go];have e : (#[] ++ xs.map (fr n σ).eval ++ #[] : Array Value) = args.toArray := by
    rw [yL, ← ha]; apply Array.ext'; simp
  rw [e, hb];simp only [Oper.upon];refine Calls.mono hc fun e w' ⟨v, he, hR⟩ => ?_
  subst he;show K _ _;rw [YP];exact hK _ _ (k v w' hR).out

theorem run_callv {ρ : Operand → Value} {X : Operand} {f : FuncId} {xs : Array Operand} {ats : Array TypeId} {dst : Option Tmp} {ty : TypeId} {pos : String} {af : Array Edge} {g : Option (Nat × Bool)} {args : List Value} (h : ρ X = .func (.func f) #[] #[]) (hb : zK P f) (ha : xs.toList.map ρ = args) :
    (execOp ρ ⟨dst, .call { callee := .value X, args := xs, argTypes := ats }, ty, pos, af, g⟩).run P w = .ok (.enter f args.toArray) w := by
  have e : xs.map ρ = args.toArray := by rw [← ha]; apply Array.ext'; simp
  have hb' := hb args.toArray w;simp [execOp, resolve, Deferred.ofValue, h, invoke, e, hb']
theorem Xm {f : FuncId} {d : Nat} {xs : Array Operand} {ats : Array TypeId} {ty : TypeId} {pos : String} {af : Array Edge} {rest : List Oper} {args : List Value} {R : Value → World → Prop} {j tg : Nat} {want : Bool} (hj : (ops[j]?).bind (·.dst) = some tg) (hg : ev n σ (.tmp tg) = .bool want) (hb : zK P f)
    (ha : xs.toList.map (ev n σ) = args) (hc : Gives P f args w R) (k : ∀ v w', R v w' → WL P ops Q rest (fr n (upd σ d v)) w') :
    WL P ops Q (⟨some d, .call { callee := .value (.func f), args := xs, argTypes := ats }, ty, pos, af, some (j, want)⟩ :: rest) (fr n σ) w := by
  refine ⟨wpList_step fun K hK => ?_⟩;rw [if_pos (by simp [Region.wanted, Yw hj hg])];unfold Oper.wp;rw [execOp_call_go];have e : (#[] ++ xs.map (fr n σ).eval ++ #[] : Array Value) = args.toArray := by
    rw [yL, ← ha]; apply Array.ext'; simp
  rw [e, hb];simp only [Oper.upon];refine Calls.mono hc fun e w' ⟨v, he, hR⟩ => ?_
  subst he;show K _ _;rw [YP];exact hK _ _ (k v w' hR).out

theorem ze {x y : Code} {a : Act} (h : x.wp P (Exit.then (y.wp P Q) Q) a w) : (Code.seq x y).wp P Q a w := wp_seq h
theorem zh {id : Nat} {l : List Oper} {a : Act} (h : WL P l.toArray Q l a w) : (Code.region id l.toArray false).wp P Q a w := wp_region_lit h.out
theorem zb {a : Act} (h : Q .normal a w) : WL P ops Q [] a w := ⟨h⟩
theorem zl {c : Operand} {x y : Code} (hc : ev n σ c = .bool true) (ht : x.wp P Q (fr n σ) w) : (Code.cond c x y).wp P Q (fr n σ) w := wp_cond_true (by rw [yL]; exact hc) ht
theorem zk {c : Operand} {x y : Code} (hc : ev n σ c = .bool false) (hf : y.wp P Q (fr n σ) w) : (Code.cond c x y).wp P Q (fr n σ) w := wp_cond_false (by rw [yL]; exact hc) hf

inductive Ctl (S R : Type) where
  | nx (s : S)
  | br (s : S)
  | rt (r : R)

def forR {α S R : Type} (step : Int → α → S → Option (Ctl S R)) : Int → List α → S → Option (Ctl S R)
  | _, [], s => some (.br s)
  | i, x :: xs, s => match step i x s with
    | some (.nx s') => forR step (i + 1) xs s'
    | o => o

def forI {S R : Type} (step : Int → S → Option (Ctl S R)) : Nat → Int → S → Option (Ctl S R)
  | 0, _, s => some (.br s)
  | k + 1, i, s => match step i s with
    | some (.nx s') => forI step k (i + 1) s'
    | o => o

def iter {S R : Type} (step : S → Option (Ctl S R)) : Nat → S → Option (Ctl S R)
  | 0, _ => none
  | k + 1, s => match step s with
    | some (.nx s') => iter step k s'
    | o => o

def FU : Nat := 4611686018427387904
def after {S R β : Type} (o : Ctl S R) (kr : R → Option β) (kb : S → Option β) : Option β := match o with | .nx _ => none | .br s => kb s | .rt r => kr r
theorem zq {S R β : Type} {s : S} {kr : R → Option β} {kb : S → Option β} {r : β} (h : after (.br s) kr kb = some r) : kb s = some r := h
theorem zr {S R β : Type} {s : R} {kr : R → Option β} {kb : S → Option β} {r : β} (h : after (.rt s) kr kb = some r) : kr s = some r := h
def forC {S R : Type} (step : Int → S → Option (Ctl S R)) (lo hi : Int) (s : S) : Option (Ctl S R) :=
  bif decide (-9223372036854775808 ≤ lo) && decide (hi ≤ 9223372036854775807) then forI step (hi - lo).toNat lo s else none

def uw {S R : Type} (id : Nat) (I J : S → Act → World → Prop) (K : R → Act → World → Prop) : Ctl S R → Exit → Act → World → Prop
  | .nx s, .normal, a, w => I s a w
  | .br s, .exit i, a, w => i = id ∧ J s a w
  | .rt r, .ret, a, w => K r a w
  | _, _, _, _ => False

def LOut {S R : Type} (id : Nat) (J : S → Act → World → Prop) (K : R → Act → World → Prop) (o : Ctl S R) (Q : Exit → Act → World → Prop) : Prop :=
  match o with
  | .nx _ => True
  | .br s => ∀ a w, J s a w → Q (.exit id) a w
  | .rt r => ∀ a w, K r a w → Q .ret a w

theorem wo {S R : Type} {id : Nat} {I J : S → Act → World → Prop} {K : R → Act → World → Prop} {o : Ctl S R} {body : Code} {a : Act} {next : Act → World → Prop}
    (h : body.wp P (uw id I J K o) a w) (hn : ∀ s, o = .nx s → ∀ a w, I s a w → next a w) (hb : ∀ s, o = .br s → ∀ a w, J s a w → Q (.exit id) a w) (hr : ∀ r, o = .rt r → ∀ a w, K r a w → Q .ret a w) :
    body.wp P (Exit.then next Q) a w := by
  refine Code.wp_mono (fun e a' w' hq => ?_) h;cases o with
  | nx s =>
    cases e
    case normal => exact hn s rfl a' w' hq
    all_goals exact (hq : False).elim
  | br s =>
    cases e
    case exit i => obtain ⟨e, hq⟩ := hq; subst e; exact hb s rfl a' w' hq
    all_goals exact (hq : False).elim
  | rt r =>
    cases e
    case ret => exact hr r rfl a' w' hq
    all_goals exact (hq : False).elim

theorem Yl {α S R : Type} {id : Nat} {body : Code} {step : Int → α → S → Option (Ctl S R)} (I : Int → List α → S → Act → World → Prop) {J : S → Act → World → Prop} {K : R → Act → World → Prop}
    (hnil : ∀ i s a w, I i [] s a w → body.wp P (uw (R := R) id (fun _ _ _ => False) J K (.br s)) a w)
    (hcons : ∀ i x xs s o a w, I i (x :: xs) s a w → step i x s = some o → body.wp P (uw id (I (i + 1) xs) J K o) a w) :
    ∀ (xs : List α) (i : Int) (s : S) (o : Ctl S R) (a : Act) (w : World), I i xs s a w → forR step i xs s = some o → LOut id J K o Q → (Code.loop body).wp P Q a w := by
  intro xs i s o a w hI hf hQ;refine wp_loop_rounds (xs.length + 1) ?_
  induction xs generalizing i s a w with
  | nil =>
    simp only [forR, Option.some.injEq] at hf;subst hf;rw [rounds_succ];exact wo (hnil i s a w hI) (fun s h => by cases h) (fun s' h a w hJ => by cases h; exact hQ a w hJ) (fun r h => by cases h)
  | cons x xs ih =>
    rw [rounds_succ];simp only [forR] at hf;cases hs : step i x s with
    | none => rw [hs] at hf; cases hf
    | some o' =>
      rw [hs] at hf;refine wo (hcons i x xs s o' a w hI hs) (fun s' h a w hI' => ?_) (fun s' h a w hJ => ?_) (fun r h a w hK => ?_)
      · subst h; exact ih (i + 1) s' a w hI' hf
      · subst h; simp only [Option.some.injEq] at hf; subst hf; exact hQ a w hJ
      · subst h; simp only [Option.some.injEq] at hf; subst hf; exact hQ a w hK

theorem wp_forI {S R : Type} {id : Nat} {body : Code} {step : Int → S → Option (Ctl S R)} (I : Nat → Int → S → Act → World → Prop) {J : S → Act → World → Prop} {K : R → Act → World → Prop}
    (hnil : ∀ i s a w, I 0 i s a w → body.wp P (uw (R := R) id (fun _ _ _ => False) J K (.br s)) a w)
    (hcons : ∀ k i s o a w, I (k + 1) i s a w → step i s = some o → body.wp P (uw id (I k (i + 1)) J K o) a w) :
    ∀ (k : Nat) (i : Int) (s : S) (o : Ctl S R) (a : Act) (w : World), I k i s a w → forI step k i s = some o → LOut id J K o Q → (Code.loop body).wp P Q a w := by
  intro k i s o a w hI hf hQ;refine wp_loop_rounds (k + 1) ?_
  induction k generalizing i s a w with
  | zero =>
    simp only [forI, Option.some.injEq] at hf;subst hf;rw [rounds_succ];exact wo (hnil i s a w hI) (fun s h => by cases h) (fun s' h a w hJ => by cases h; exact hQ a w hJ) (fun r h => by cases h)
  | succ k ih =>
    rw [rounds_succ];simp only [forI] at hf;cases hs : step i s with
    | none => rw [hs] at hf; cases hf
    | some o' =>
      rw [hs] at hf;refine wo (hcons k i s o' a w hI hs) (fun s' h a w hI' => ?_) (fun s' h a w hJ => ?_) (fun r h a w hK => ?_)
      · subst h; exact ih (i + 1) s' a w hI' hf
      · subst h; simp only [Option.some.injEq] at hf; subst hf; exact hQ a w hJ
      · subst h; simp only [Option.some.injEq] at hf; subst hf; exact hQ a w hK

theorem zU {S R : Type} {id : Nat} {body : Code} {step : Int → S → Option (Ctl S R)} (hi : Int) (I : Int → S → Act → World → Prop) {J : S → Act → World → Prop} {K : R → Act → World → Prop}
    (hnil : ∀ i s a w, I i s a w → ¬ i < hi → body.wp P (uw (R := R) id (fun _ _ _ => False) J K (.br s)) a w)
    (hcons : ∀ i s o a w, I i s a w → i < hi → w64 (i + 1) = i + 1 → step i s = some o → body.wp P (uw id (I (i + 1)) J K o) a w) :
    ∀ (lo : Int) (s : S) (o : Ctl S R) (a : Act) (w : World), I lo s a w → forC step lo hi s = some o → LOut id J K o Q → (Code.loop body).wp P Q a w := by
  intro lo s o a w hI hf hQ;unfold forC at hf;cases hb : (decide (-9223372036854775808 ≤ lo) && decide (hi ≤ 9223372036854775807)) with
  | false => rw [hb] at hf; cases hf
  | true =>
    rw [hb] at hf;simp only [Bool.and_eq_true, decide_eq_true_eq] at hb;refine wp_forI (I := fun k i s a w => I i s a w ∧ (hi - i).toNat = k ∧ lo ≤ i) (J := J) (K := K) ?_ ?_ _ lo s o a w ⟨hI, rfl, Int.le_refl _⟩ hf hQ
    · rintro i s a w ⟨h1, h2, h3⟩;exact hnil i s a w h1 (by omega)
    · rintro k i s o a w ⟨h1, h2, h3⟩ hs;have hlt : i < hi := by omega
      refine wp_mono (hcons i s o a w h1 hlt (IntWalk.i64_in _ ⟨by omega, by omega⟩) hs) fun e a w h => ?_
      cases o with
      | nx s' =>
        cases e
        case normal => exact ⟨h, by omega, by omega⟩
        all_goals exact h
      | br s' => cases e <;> exact h
      | rt r' => cases e <;> exact h

theorem ZG {S R : Type} {id : Nat} {body : Code} {step : S → Option (Ctl S R)} (I : S → Act → World → Prop) {J : S → Act → World → Prop} {K : R → Act → World → Prop}
    (hcons : ∀ s o a w, I s a w → step s = some o → body.wp P (uw id I J K o) a w) :
    ∀ (k : Nat) (s : S) (o : Ctl S R) (a : Act) (w : World), I s a w → iter step k s = some o → LOut id J K o Q → (Code.loop body).wp P Q a w := by
  intro k s o a w hI hf hQ;refine wp_loop_rounds k ?_
  induction k generalizing s a w with
  | zero => simp [iter] at hf
  | succ k ih =>
    rw [rounds_succ];simp only [iter] at hf;cases hs : step s with
    | none => rw [hs] at hf; cases hf
    | some o' =>
      rw [hs] at hf;refine wo (hcons s o' a w hI hs) (fun s' h a w hI' => ?_) (fun s' h a w hJ => ?_) (fun r h a w hK => ?_)
      · subst h; exact ih s' a w hI' hf
      · subst h; simp only [Option.some.injEq] at hf; subst hf; exact hQ a w hJ
      · subst h; simp only [Option.some.injEq] at hf; subst hf; exact hQ a w hK

end
end Go.G
