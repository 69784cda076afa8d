/- Plain lemmas on what the functions compute, up to: the law gives true. No conditions. -/
import Derived.Test.YtlfpejnpjpmejaaGreatDoorF4
import Derived.Test.YtlfpejnpjpmejaaGreatDoorGPure
import Derived.Test.YtlfpejnpjpmejaaGreatDoorGOpen
import Derived.Test.YtlfpejnpjpmejaaGreatDoorGLoop
set_option linter.unusedVariables false
namespace Go.Proofs
open Go.G
set_option maxRecDepth 100000


def digs (n : Int) : Nat → Int → List Int
  | 0,_ => []
  | t + 1,i => (i / n ^ t % n) :: digs n t i

theorem zaO {i k n : Int} {K : Nat} (hk : k = (K : Int)) (hK : K ≤ 4294967296) (hn : 1 ≤ n) (hi : 0 ≤ i) (hi' : i ≤ 9223372036854775807) : (
  (mks k (0 : Int)).bind fun y2 =>
  (iter (S := Int × Int × (List Int)) (R := (List Int)) (fun s17 =>
  (bif (decide (0 ≤ s17.2.1)) then (nz n).bind fun u26 =>
  (idx s17.2.2 s17.2.1).bind fun x27 =>
  (nz n).bind fun u30 =>
  some (.nx (w64 (Int.tdiv s17.1 n),w64 (s17.2.1 - 1),List.set s17.2.2 (Int.toNat s17.2.1) (Int.tmod s17.1 n))) else some (.br (s17.1,s17.2.1,s17.2.2)))) FU (i,w64 (k - 1),y2)).bind fun o21 => after o21 (fun r_ => some r_) (fun s17 =>
  some s17.2.2)) = some (digs n K i) := by
  subst hk;rw [we rfl hK,obs];have hp : ∀ t : Nat,0 ≤ i / n ^ t ∧ i / n ^ t ≤ i := fun t => ⟨Int.ediv_nonneg hi (by exact Int.pow_nonneg (by omega)),ediv_le hi (by exact Int.pow_nonneg (by omega))⟩
  rw [Ud (fun t => (i / n ^ t,(K : Int) - 1 - t,List.replicate (K - t) 0 ++ digs n t i)) (t := (i / n ^ K,-1,digs n K i)) K (by omega)]
  · rfl
  · rw [Zl (by omega) (by omega)]; simp [digs]
  · intro j hj;have e2 : List.replicate (K - j) (0 : Int) ++ digs n j i = List.replicate (K - (j + 1)) 0 ++ (0 :: digs n j i) := by
      rw [show K - j = (K - (j + 1)) + 1 by omega,List.replicate_succ',List.append_assoc]; rfl
    have hp1 := hp j;have e3 : (K : Int) - 1 - j = ((K - (j + 1) : Nat) : Int) := by omega
    simp only [decide_true,show (0 : Int) ≤ (K : Int) - 1 - j by omega,ct1,nz_ok (show n ≠ 0 by omega),obs,zdr hp1.1,tmod_nn hp1.1];rw [Zl (x := i / n ^ j / n) (by have := Int.ediv_nonneg hp1.1 (show 0 ≤ n by omega); omega) (by have := ediv_le hp1.1 (show 0 ≤ n by omega); omega),Zl (by omega) (by omega),e2,e3,yv,itn];simp only [List.getElem?_append,List.length_replicate,Nat.lt_irrefl,if_false,Nat.sub_self,List.getElem?_cons_zero,obs,List.set_append,List.set_cons_zero,Option.some.injEq,Ctl.nx.injEq,Prod.mk.injEq];refine ⟨?_,by omega,by rw [digs]⟩;rw [Int.pow_succ,Int.ediv_ediv_of_nonneg (Int.pow_nonneg (by omega))]
  · have : decide ((0 : Int) ≤ (K : Int) - 1 - K) = false := by simp; omega
    simp only [this,ct0,Nat.sub_self,List.replicate_zero,List.nil_append];rw [show (K : Int) - 1 - K = -1 by omega]

theorem zaP {i k n : Int} {K : Nat} (hk : k = (K : Int)) (hK : K ≤ 4294967296) (hn : 1 ≤ n) (hi : 0 ≤ i) (hi' : i ≤ 9223372036854775807) : ZD n k i = some (digs n K i) :=
  zaO hk hK hn hi hi'

theorem argsAt_eq {i k n : Int} {K : Nat} (hk : k = (K : Int)) (hK : K ≤ 4294967296) (hn : 1 ≤ n) (hi : 0 ≤ i) (hi' : i ≤ 9223372036854775807) : Zp i k n = some (digs n K i) :=
  zaO hk hK hn hi hi'


theorem eqIntS_eq (a b : List Int) (ha : a.length ≤ 4294967296) : YY a b = some (a == b) := by
  unfold YY;by_cases hl : a.length = b.length
  · rw [hl];simp only [bne_self_eq_false,ct0];rw [Yq (n := b.length) (fun j => a[j]? == b[j]?) false rfl (by omega)]
    · have : (a == b) = (List.range b.length).all (fun j => a[j]? == b[j]?) := by
        rw [Bool.eq_iff_iff];simp only [beq_iff_eq,List.all_eq_true,List.mem_range];constructor
        · rintro rfl j _; rfl
        · intro h; apply List.ext_getElem?; intro j;by_cases hj : j < b.length
          · exact h j hj
          · rw [List.getElem?_eq_none (by omega),List.getElem?_eq_none (by omega)]
      rw [← this];cases a == b <;> rfl
    · intro j hj;have hj' : j < a.length := by omega
      simp only [yv,gge hj,gge hj',obs];by_cases h : a[j] = b[j]
      · simp [h]
      · simp [bne,beq_eq_false_iff_ne.2 h]
  · have h1 : (a == b) = false := by
      rw [Bool.eq_false_iff]; intro h; exact hl (by rw [beq_iff_eq.1 h])
    have h2 : ((a.length : Int) != (b.length : Int)) = true := by simp; omega
    rw [h1,h2]; rfl

theorem toIntS_eq (a : List Int) (ha : a.length ≤ 4294967296) : xa a = some a := by
  unfold xa;rw [we rfl ha,obs,ue (fun j => a[j]?.getD 0) (z := 0) (n := a.length) rfl ha rfl]
  · rw [obs,zY,wB]
  · intro j s hj hs;simp [gge hj,gge (show j < s.length by omega)]


theorem zct {n k : Int} {N K : Nat} (hn : n = (N : Int)) (hk : k = (K : Int)) (hN : 1 ≤ N) (hK : N ^ K ≤ 9223372036854775807) (hK2 : K ≤ 4294967296) : (
  (iter (S := Int × Int) (R := Int) (fun s2 =>
  (bif (decide (0 < s2.1)) then some (.nx (w64 (s2.1 - 1),w64 (s2.2 * n))) else some (.br (s2.1,s2.2)))) FU (k,1)).bind fun o6 => after o6 (fun r_ => some r_) (fun s2 =>
  some s2.2)) = some ((N ^ K : Nat) : Int) := by
  subst hn hk;rw [Ud (fun t => ((K : Int) - t,((N ^ t : Nat) : Int))) (t := (0,((N ^ K : Nat) : Int))) K (by omega)]
  · rfl
  · simp
  · intro j hj;have hd : decide ((0 : Int) < (K : Int) - j) = true := by simp; omega
    have hp : N ^ (j + 1) ≤ N ^ K := Nat.pow_le_pow_right hN (by omega);simp only [hd,ct1];rw [Zl (by omega) (by omega),show ((N ^ j : Nat) : Int) * (N : Int) = ((N ^ (j + 1) : Nat) : Int) by rw [Nat.pow_succ]; simp,vl (by omega)];simp; omega
  · simp

theorem UE {n k : Int} {N K : Nat} (hn : n = (N : Int)) (hk : k = (K : Int)) (hN : 1 ≤ N) (hK : N ^ K ≤ 9223372036854775807) (hK2 : K ≤ 4294967296) : ZB n k = some ((N ^ K : Nat) : Int) := zct hn hk hN hK hK2

theorem zcl {n k : Int} {N K : Nat} (hn : n = (N : Int)) (hk : k = (K : Int)) (hN : 1 ≤ N) (hK : N ^ K ≤ 9223372036854775807) (hK2 : K ≤ 4294967296) : YA n k = some ((N ^ K : Nat) : Int) := zct hn hk hN hK hK2


theorem inSize_eq (l : List Int) (n : Int) : YX l n = some (l.all fun x => decide (0 ≤ x) && decide (x < n)) := by
  unfold YX;rw [Vg (fun x => decide (0 ≤ x) && decide (x < n)) false]
  · cases l.all fun x => decide (0 ≤ x) && decide (x < n) <;> rfl
  · intro i x _;by_cases h : x < 0
    · simp [h]; simp [show ¬ 0 ≤ x by omega]
    · by_cases h' : n ≤ x
      · simp [h,h']; simp [show ¬ x < n by omega]
      · simp [h,h',show 0 ≤ x by omega,show x < n by omega]


theorem zds (x a b : Int) : xw x a b = some (decide (a ≤ x) && decide (x ≤ b)) := by
  unfold xw;by_cases h : a ≤ x <;> simp [h]


theorem all_range {α : Type} (l : List α) (p : α → Bool) (d : α) : (List.range l.length).all (fun j => p (l[j]?.getD d)) = l.all p := by
  rw [Bool.eq_iff_iff];simp only [List.all_eq_true,List.mem_range];constructor
  · intro h x hx;obtain ⟨i,hi,rfl⟩ := List.mem_iff_getElem.1 hx;have := h i hi;simpa [gge hi] using this
  · intro h j hj;rw [gge hj];exact h _ (List.getElem_mem hj)


def opOk (N : Nat) (f : Int × List Int) : Bool := decide (0 ≤ f.1) && (decide (f.1 ≤ 3) && (decide (f.2.length = N ^ f.1.toNat) && f.2.all fun x => decide (0 ≤ x) && decide (x < (N : Int))))

theorem vk {N K : Nat} (hN8 : N ≤ 8) (hK : K ≤ 3) : N ^ K ≤ 512 := by
  have h1 : N ^ K ≤ 8 ^ K := Nat.pow_le_pow_left hN8 K;have h2 : 8 ^ K ≤ 8 ^ 3 := Nat.pow_le_pow_right (by omega) hK;omega

theorem isOp_eq {n : Int} {N : Nat} (hn : n = (N : Int)) (hN : 1 ≤ N) (hN8 : N ≤ 8) (f : Int × List Int) : xp f n = some (opOk N f) := by
  obtain ⟨a,t⟩ := f;unfold xp opOk;by_cases h0 : 0 ≤ a
  · by_cases h3 : a ≤ 3
    · obtain ⟨K,rfl⟩ : ∃ K : Nat,a = (K : Int) := ⟨a.toNat,by omega⟩;have hp : N ^ K ≤ 512 := vk hN8 (by omega);have hi : YX t n = some (t.all fun x => decide (0 ≤ x) && decide (x < (N : Int))) := by rw [inSize_eq,hn]
      simp only [h0,h3,decide_true,ct1,Bool.true_and,itn];rw [UE hn rfl hN (by omega) (by omega),obs,hi,obs];by_cases hl : t.length = N ^ K
      · simp [hl]
      · have : ((t.length : Int) == ((N ^ K : Nat) : Int)) = false := by rw [wD]; simp [hl]
        rw [this]; simp [hl]
    · simp [h0,h3]
  · simp [h0]

theorem l2Op_eq {n : Int} {N : Nat} (hn : n = (N : Int)) (hN : 1 ≤ N) (hN8 : N ≤ 8) (f : Int × List Int) (hl : f.2.length ≤ 4294967296) : xv n f = some (opOk N f) := by
  obtain ⟨a,t⟩ := f;unfold xv opOk;simp only [zds,obs];by_cases h0 : 0 ≤ a
  · by_cases h3 : a ≤ 3
    · obtain ⟨K,rfl⟩ : ∃ K : Nat,a = (K : Int) := ⟨a.toNat,by omega⟩;have hp : N ^ K ≤ 512 := vk hN8 (by omega);simp only [h0,h3,decide_true,Bool.true_and,bnt,ct0,itn];rw [zcl hn rfl hN (by omega) (by omega),obs,obs];by_cases hl' : t.length = N ^ K
      · have e1 : ((t.length : Int) != ((N ^ K : Nat) : Int)) = false := by rw [hl']; simp
        rw [e1,ct0,Zl (by omega) (by omega),Yq (n := t.length) (fun j => decide (0 ≤ t[j]?.getD 0) && decide (t[j]?.getD 0 < (N : Int))) false rfl (by simp at hl; omega)]
        · rw [all_range t (fun x => decide (0 ≤ x) && decide (x < (N : Int))) 0];cases t.all fun x => decide (0 ≤ x) && decide (x < (N : Int)) <;> simp [hl']
        · intro j hj;simp only [yv,gge hj,obs,Option.getD_some];have : decide (t[j] ≤ n - 1) = decide (t[j] < (N : Int)) := by rw [decide_eq_decide]; omega
          rw [this];cases decide (0 ≤ t[j]) && decide (t[j] < (N : Int)) <;> rfl
      · have e1 : ((t.length : Int) != ((N ^ K : Nat) : Int)) = true := by rw [bne,wD]; simp [hl']
        rw [e1]; simp [hl']
    · simp [h0,h3]
  · simp [h0]


theorem szIntS_eq (a : List Int) (left : Int) (ha : a.length ≤ 9223372036854775807) (h0 : 0 ≤ left) (h1 : left ≤ 4611686018427387904) : YZ a left = some (if left < a.length then -1 else left - a.length) := by
  unfold YZ;rw [Zl (by omega) (by omega)];by_cases h : left < a.length
  · rw [if_pos h]; simp [show left - (a.length : Int) < 0 by omega]
  · rw [if_neg h]; simp [show ¬ left - (a.length : Int) < 0 by omega]

def discT (dual : Bool) (N : Nat) : List Int := (List.range (N * N * N)).map fun k : Nat => if ((k / N / N % N == k / N % N) == dual) then ((k / N / N % N : Nat) : Int) else ((k % N : Nat) : Int)

theorem digs3 (N k : Nat) : digs (N : Int) 3 (k : Int) = [((k / N / N % N : Nat) : Int),((k / N % N : Nat) : Int),((k % N : Nat) : Int)] := by
  simp [digs,Nat.div_div_eq_div_mul];exact ⟨by rw [Int.pow_succ,Int.pow_succ,Int.pow_zero,Int.one_mul],by rw [Int.pow_succ,Int.pow_zero,Int.one_mul]⟩

theorem l2Args3 {N k : Nat} (h1 : 1 ≤ N) (hk : k ≤ 4611686018427387904) : ZD (N : Int) 3 (k : Int) = some [((k / N / N % N : Nat) : Int),((k / N % N : Nat) : Int),((k % N : Nat) : Int)] := by
  rw [zaP (k := 3) (K := 3) rfl (by omega) (by omega) (by omega) (by omega),digs3]

theorem l18Op_eq {n : Int} {N : Nat} (dual : Bool) (h1 : 1 ≤ N) (hn : n = (N : Int)) (hw : w64 (w64 (n * n) * n) = ((N * N * N : Nat) : Int)) (hs : N * N * N ≤ 512) : Yy n dual = some (3,discT dual N) := by
  unfold Yy;rw [hw,XZ (fun k : Nat => if ((k / N / N % N == k / N % N) == dual) then ((k / N / N % N : Nat) : Int) else ((k % N : Nat) : Int)) rfl (by omega)]
  · rfl
  · intro j s hj hs;rw [hn,l2Args3 h1 (by omega),obs];have e : ∀ x y z : Int,idx [x,y,z] 0 = some x ∧ idx [x,y,z] 1 = some y ∧ idx [x,y,z] 2 = some z := fun _ _ _ => ⟨rfl,rfl,rfl⟩
    simp only [e,obs];rw [wD];cases (j / N / N % N == j / N % N) == dual <;> rfl

theorem same_loop (a b : List Int) (ha : a.length ≤ 4294967296) : (
  (bif ((a.length : Int) != (b.length : Int)) then some false else (forC (S := Unit) (R := Bool) (fun k12 s10 =>
  (idx a k12).bind fun x17 =>
  (idx b k12).bind fun x19 =>
  (bif (x17 != x19) then some (.rt false) else some (.nx ()))) 0 (a.length : Int) ()).bind fun o14 => after o14 (fun r_ => some r_) (fun s10 =>
  some true))) = some (a == b) := by
  by_cases hl : a.length = b.length
  · rw [hl];simp only [bne_self_eq_false,ct0];rw [Yq (n := b.length) (fun j => a[j]? == b[j]?) false rfl (by omega)]
    · have : (a == b) = (List.range b.length).all (fun j => a[j]? == b[j]?) := by
        rw [Bool.eq_iff_iff];simp only [beq_iff_eq,List.all_eq_true,List.mem_range];constructor
        · rintro rfl j _; rfl
        · intro h; apply List.ext_getElem?; intro j;by_cases hj : j < b.length
          · exact h j hj
          · rw [List.getElem?_eq_none (by omega),List.getElem?_eq_none (by omega)]
      rw [← this];cases a == b <;> rfl
    · intro j hj;have hj' : j < a.length := by omega
      simp only [yv,gge hj,gge hj',obs];by_cases h : a[j] = b[j]
      · simp [h]
      · simp [bne,beq_eq_false_iff_ne.2 h]
  · have h1 : (a == b) = false := by
      rw [Bool.eq_false_iff]; intro h; exact hl (by rw [beq_iff_eq.1 h])
    have h2 : ((a.length : Int) != (b.length : Int)) = true := by simp; omega
    rw [h1,h2]; rfl

theorem l1Same_eq (a b : List Int) (ha : a.length ≤ 4294967296) : ZN a b = some (a == b) := by
  unfold ZN; exact same_loop a b ha


def NL (T : List Nat) : List Int := T.map fun x : Nat => (x : Int)

@[simp] theorem Xn (T : List Nat) : (NL T).length = T.length := by simp [NL]

@[simp] theorem NL_nil : NL [] = [] := rfl

@[simp] theorem VE (x : Nat) (T : List Nat) : NL (x :: T) = (x : Int) :: NL T := rfl

theorem NL_app (S T : List Nat) : NL (S ++ T) = NL S ++ NL T := by simp [NL]

theorem NL_inj {S T : List Nat} (h : NL S = NL T) : S = T := by
  induction S generalizing T with
  | nil => cases T with
    | nil => rfl
    | cons y T => cases h
  | cons x S ih => cases T with
    | nil => cases h
    | cons y T =>
      simp only [VE,List.cons.injEq] at h;rw [ih h.2,show x = y by omega]

theorem NL_beq (S T : List Nat) : (NL S == NL T) = (S == T) := by
  rw [Bool.eq_iff_iff,beq_iff_eq,beq_iff_eq]; exact ⟨NL_inj,fun h => by rw [h]⟩

def ga (T : List Nat) (k : Nat) : Nat := T.getD k 0

theorem YT {T : List Nat} {k : Nat} (h : k < T.length) : ga T k = T[k] := by simp [ga,gge h]

theorem yp {T : List Nat} {k : Nat} (h : k < T.length) : ga T k ∈ T := by rw [YT h]; exact List.getElem_mem h

theorem YN {T : List Nat} {k : Nat} (h : k < T.length) : idx (NL T) (k : Int) = some ((ga T k : Nat) : Int) := by
  rw [yv,YT h]; simp [NL,gge h]

theorem NL_of {t : List Int} (h : ∀ x ∈ t,0 ≤ x) : ∃ T : List Nat,t = NL T := by
  refine ⟨t.map Int.toNat,?_⟩;unfold NL;rw [List.map_map]
  conv => lhs; rw [← List.map_id t]
  refine List.map_congr_left fun x hx => ?_
  have := h x hx;simp; omega

theorem Uu (T : List Nat) : (List.range T.length).map (ga T) = T := by
  apply List.ext_getElem
  · simp
  · intro i h1 h2;simp only [List.getElem_map,List.getElem_range];exact YT h2

theorem ga_ext {S T : List Nat} (hl : S.length = T.length) (h : ∀ k,k < S.length → ga S k = ga T k) : S = T := by
  rw [← Uu S,← Uu T,← hl];exact List.map_congr_left fun k hk => h k (by simpa using hk)

theorem XC {a b : Nat} (h : a + b ≤ 9223372036854775807) : w64 ((a : Int) + (b : Int)) = ((a + b : Nat) : Int) := by
  rw [Zl (by omega) (by omega)]; omega

theorem ZY {a : Nat} (h : a + 1 ≤ 9223372036854775807) : w64 ((a : Int) + 1) = ((a + 1 : Nat) : Int) := by
  rw [Zl (by omega) (by omega)]; omega

theorem yS {a b : Nat} (h : a * b ≤ 9223372036854775807) : w64 ((a : Int) * (b : Int)) = ((a * b : Nat) : Int) := by
  rw [← Int.natCast_mul,vl h]

theorem Vm {a b : Nat} (h : a ≤ 9223372036854775807) : w64 (Int.tdiv (a : Int) (b : Int)) = ((a / b : Nat) : Int) := by
  rw [tdiv_nat,vl (Nat.le_trans (Nat.div_le_self _ _) h)]

theorem zcK {b : Nat} (h : 0 < b) : nz (b : Int) = some () := nz_ok (by omega)

theorem Yi (a b : Nat) : decide ((a : Int) < (b : Int)) = decide (a < b) := by rw [decide_eq_decide]; omega

theorem wb (a b : Nat) : decide ((a : Int) ≤ (b : Int)) = decide (a ≤ b) := by rw [decide_eq_decide]; omega

theorem lin2 {x y N M : Nat} (hx : x < N) (hy : y < M) : x * M + y < N * M := by
  calc x * M + y < x * M + M := by omega
    _ = (x + 1) * M := by rw [Nat.add_mul,Nat.one_mul]
    _ ≤ N * M := Nat.mul_le_mul_right M hx

theorem Xk {x y M : Nat} (hy : y < M) : (x * M + y) / M = x := by
  rw [Nat.mul_comm,Nat.mul_add_div (by omega),Nat.div_eq_of_lt hy]; omega

theorem Xi {x y M : Nat} (hy : y < M) : (x * M + y) % M = y := by
  rw [Nat.mul_comm,Nat.mul_add_mod,Nat.mod_eq_of_lt hy]

def dig (N : Nat) : Nat → Nat → List Nat
  | 0,_ => []
  | t + 1,i => (i / N ^ t % N) :: dig N t i

@[simp] theorem Yt (N : Nat) : ∀ (t i : Nat),(dig N t i).length = t
  | 0,_ => rfl
  | t + 1,i => by simp [dig,Yt N t i]

theorem zbC (N : Nat) : ∀ (t i : Nat),digs (N : Int) t (i : Int) = NL (dig N t i)
  | 0,_ => rfl
  | t + 1,i => by
    simp only [digs,dig,VE,zbC N t i];congr 1

theorem wO {N : Nat} (h : 0 < N) : ∀ (t i : Nat),∀ x ∈ dig N t i,x < N
  | 0,_,_,h => by cases h
  | t + 1,i,x,hx => by
    rcases List.mem_cons.1 hx with rfl | hx
    · exact Nat.mod_lt _ h
    · exact wO h t i x hx

theorem argsN {i K N : Nat} (hK : K ≤ 4294967296) (hN : 1 ≤ N) (hi : i ≤ 9223372036854775807) : Zp (i : Int) (K : Int) (N : Int) = some (NL (dig N K i)) := by
  rw [argsAt_eq (K := K) rfl hK (by omega) (by omega) (by omega),zbC]

theorem l2ArgsN {i K N : Nat} (hK : K ≤ 4294967296) (hN : 1 ≤ N) (hi : i ≤ 9223372036854775807) : ZD (N : Int) (K : Int) (i : Int) = some (NL (dig N K i)) := by
  rw [zaP (K := K) rfl hK (by omega) (by omega) (by omega),zbC]


structure OpN (N : Nat) (f : Int × List Int) (K : Nat) (T : List Nat) : Prop where
  eq : f = ((K : Int),NL T)
  k3 : K ≤ 3
  len : T.length = N ^ K
  lt : ∀ x ∈ T,x < N

theorem opOk_elim {N : Nat} {f : Int × List Int} (h : opOk N f = true) : ∃ K T,OpN N f K T := by
  obtain ⟨a,t⟩ := f;simp only [opOk,Bool.and_eq_true,decide_eq_true_eq,List.all_eq_true] at h;obtain ⟨h0,h3,hl,hx⟩ := h;obtain ⟨T,rfl⟩ := NL_of (fun x hx' => (hx x hx').1);obtain ⟨K,rfl⟩ : ∃ K : Nat,a = (K : Int) := ⟨a.toNat,by omega⟩;refine ⟨K,T,rfl,by omega,by simpa using hl,fun x hx' => ?_⟩;have := (hx (x : Int) (List.mem_map.2 ⟨x,hx',rfl⟩)).2;omega

theorem OpN.ok {N : Nat} {f : Int × List Int} {K : Nat} {T : List Nat} (h : OpN N f K T) : opOk N f = true := by
  obtain ⟨rfl,h3,hl,hx⟩ := h;simp only [opOk,Bool.and_eq_true,decide_eq_true_eq,List.all_eq_true];refine ⟨by omega,by omega,by simpa using hl,fun x hx' => ?_⟩;obtain ⟨y,hy,rfl⟩ := List.mem_map.1 hx';have := hx y hy;simp; omega

theorem pow2 (N : Nat) : N ^ 2 = N * N := by rw [Nat.pow_succ,Nat.pow_succ,Nat.pow_zero,Nat.one_mul]


def ix (N : Nat) (s : Nat) (A : List Nat) : Nat := A.foldl (fun s x => s * N + x) s

theorem ix_lt {N : Nat} : ∀ (A : List Nat) (s : Nat),(∀ x ∈ A,x < N) → ix N s A < (s + 1) * N ^ A.length
  | [],s,_ => by simp [ix]
  | x :: A,s,h => by
    have h1 := ix_lt A (s * N + x) (fun y hy => h y (by simp [hy]));have hx := h x (by simp);have : (s * N + x + 1) * N ^ A.length ≤ (s + 1) * N * N ^ A.length := by
      apply Nat.mul_le_mul_right; rw [Nat.add_mul,Nat.one_mul]; omega
    show ix N (s * N + x) A < _;rw [List.length_cons,Nat.pow_succ,Nat.mul_comm (N ^ A.length),← Nat.mul_assoc];omega

theorem Xe {N K : Nat} {A : List Nat} (h : ∀ x ∈ A,x < N) (hl : A.length = K) : ix N 0 A < N ^ K := by
  have := ix_lt A 0 h; rw [hl] at this; simpa using this

theorem UL {N K : Nat} (h8 : N ≤ 8) (hK : K ≤ 3) : N ^ K ≤ 512 := vk h8 hK

theorem dig2 {N x y : Nat} (hx : x < N) (hy : y < N) : dig N 2 (x * N + y) = [x,y] := by
  simp only [dig,Nat.pow_one,Nat.pow_zero,Nat.div_one,Xk hy,Xi hy,Nat.mod_eq_of_lt hx]

def t3 (T : List Nat) (N a b c : Nat) : Nat := ga T ((a * N + b) * N + c)

theorem wj (T : List Nat) : (NL T).map Int.toNat = T := by
  unfold NL; rw [List.map_map]; exact (List.map_congr_left (fun x _ => by simp)).trans (List.map_id T)

theorem zbB (a b : Nat) : ((a : Int) != (b : Int)) = !(a == b) := by rw [bne,wD]


def NLL (L : List (List Nat)) : List (List Int) := L.map NL

@[simp] theorem yw (L : List (List Nat)) : (NLL L).length = L.length := by simp [NLL]

@[simp] theorem NLL_nil : NLL [] = [] := rfl

@[simp] theorem NLL_cons (x : List Nat) (L : List (List Nat)) : NLL (x :: L) = NL x :: NLL L := rfl

theorem NLL_app (S T : List (List Nat)) : NLL (S ++ T) = NLL S ++ NLL T := by simp [NLL]

def gl (L : List (List Nat)) (k : Nat) : List Nat := L.getD k []

theorem Yf {L : List (List Nat)} {k : Nat} (h : k < L.length) : gl L k = L[k] := by simp [gl,gge h]

theorem xm {L : List (List Nat)} {k : Nat} (h : k < L.length) : gl L k ∈ L := by rw [Yf h]; exact List.getElem_mem h

theorem xA {L : List (List Nat)} {k : Nat} (h : k < L.length) : idx (NLL L) (k : Int) = some (NL (gl L k)) := by
  rw [yv,Yf h]; simp [NLL,gge h]

theorem zdj (L : List (List Nat)) : (List.range L.length).map (gl L) = L := by
  apply List.ext_getElem
  · simp
  · intro i h1 h2;simp only [List.getElem_map,List.getElem_range];exact Yf h2


def Zs : List Nat → List Nat → Bool
  | x :: a,y :: b => if x = y then Zs a b else decide (x < y)
  | _,_ => false

theorem yQ : ∀ a : List Nat,Zs a a = false
  | [] => rfl
  | x :: a => by simp [Zs,yQ a]

theorem Yu : ∀ {a b c : List Nat},Zs a b = true → Zs b c = true → Zs a c = true
  | [],_,_,h,_ => by simp [Zs] at h
  | _ :: _,[],_,h,_ => by simp [Zs] at h
  | _ :: _,_ :: _,[],_,h => by simp [Zs] at h
  | x :: a,y :: b,z :: c,h,h' => by
    simp only [Zs] at h h' ⊢;by_cases h1 : x = y
    · subst h1;rw [if_pos rfl] at h;by_cases h2 : x = z
      · subst h2;rw [if_pos rfl] at h' ⊢;exact Yu h h'
      · rw [if_neg h2] at h' ⊢; exact h'
    · rw [if_neg h1,decide_eq_true_eq] at h;by_cases h2 : y = z
      · subst h2;rw [if_neg h1]; simp [h]
      · rw [if_neg h2,decide_eq_true_eq] at h';rw [if_neg (by omega)]; simp; omega

theorem uf : ∀ {a b : List Nat},a.length = b.length → Zs a b = false → a ≠ b → Zs b a = true
  | [],[],_,_,h => absurd rfl h
  | [],_ :: _,h,_,_ => by simp at h
  | _ :: _,[],h,_,_ => by simp at h
  | x :: a,y :: b,h,h1,h2 => by
    simp only [Zs] at h1 ⊢;by_cases e : x = y
    · subst e;rw [if_pos rfl] at h1 ⊢;exact uf (by simpa using h) h1 (fun e => h2 (by rw [e]))
    · rw [if_neg e,decide_eq_false_iff_not] at h1;rw [if_neg (fun e' => e e'.symm)]; simp; omega

theorem zbV {a b : List Nat} (h : Zs a b = true) : Zs b a = false := by
  cases h' : Zs b a with
  | false => rfl
  | true => have := Yu h h'; rw [yQ] at this; cases this


theorem vT : ∀ (a b : List Nat),a.length ≤ b.length → Zs a b = (match (List.range a.length).findSome? (fun j => if ga a j = ga b j then none else some (decide (ga a j < ga b j))) with | none => false | some r => r)
  | [],b,_ => by simp [Zs]
  | x :: a,[],h => by simp at h
  | x :: a,y :: b,h => by
    have ih := vT a b (by simpa using h);simp only [Zs,List.length_cons,List.range_succ_eq_map,List.findSome?_cons];by_cases e : x = y
    · subst e;rw [if_pos rfl,ih,if_pos (by simp [ga]),List.findSome?_map];have : ((fun j => if ga (x :: a) j = ga (x :: b) j then none else some (decide (ga (x :: a) j < ga (x :: b) j))) ∘ Nat.succ) = fun j => if ga a j = ga b j then none else some (decide (ga a j < ga b j)) := by
        funext j; simp [ga]
      rw [this]
    · rw [if_neg e,if_neg (by simpa [ga] using e)];simp [ga]

theorem zaI {a b : List Nat} (h : a.length ≤ b.length) (hl : a.length ≤ 9223372036854775807) : YB (NL a) (NL b) = some (Zs a b) := by
  unfold YB;rw [wg (n := a.length) (fun j => if ga a j = ga b j then none else some (decide (ga a j < ga b j))) (by simp) hl]
  · rw [obs,vT a b h];cases (List.range a.length).findSome? _ <;> rfl
  · intro j hj;rw [YN hj,YN (show j < b.length by omega)];simp only [obs,zbB];by_cases e : ga a j = ga b j
    · rw [if_pos e,e]; simp
    · rw [if_neg e,beq_eq_false_iff_ne.2 e];simp only [bnf,ct1];rw [Yi]


theorem wY {a b : List Nat} (h : a.length ≤ 4294967296) : ZN (NL a) (NL b) = some (a == b) := by
  rw [l1Same_eq _ _ (by simpa using h),NL_beq]

def Sorted (L : List (List Nat)) : Prop := L.Pairwise fun a b => Zs a b = true

theorem Sorted.get {L : List (List Nat)} (h : Sorted L) {i j : Nat} (hij : i < j) (hj : j < L.length) : Zs (gl L i) (gl L j) = true := by
  rw [Yf (by omega),Yf hj];exact List.pairwise_iff_getElem.1 h i j (by omega) hj hij

def VA (L : List (List Nat)) (t : List Nat) : Nat := L.countP fun u => Zs u t

theorem Ut {L : List (List Nat)} {t : List Nat} {k : Nat} (hk : k ≤ L.length) (h1 : ∀ i,i < k → Zs (gl L i) t = true) (h2 : ∀ i,k ≤ i → i < L.length → Zs (gl L i) t = false) : VA L t = k := by
  unfold VA
  conv => lhs; rw [← List.take_append_drop k L,List.countP_append]
  have e1 : (L.take k).countP (fun u => Zs u t) = (L.take k).length := by
    rw [List.countP_eq_length];intro u hu;obtain ⟨i,hi,rfl⟩ := List.mem_iff_getElem.1 hu;simp only [List.length_take] at hi;have := h1 i (by omega);rw [Yf (by omega)] at this;simpa using this
  have e2 : (L.drop k).countP (fun u => Zs u t) = 0 := by
    rw [List.countP_eq_zero];intro u hu;obtain ⟨i,hi,rfl⟩ := List.mem_iff_getElem.1 hu;simp only [List.length_drop] at hi;have := h2 (k + i) (by omega) (by omega);rw [Yf (by omega)] at this;simpa using this
  rw [e1,e2,List.length_take]; omega

theorem mem_at {L : List (List Nat)} {t : List Nat} {k : Nat} (hs : Sorted L) (hk : k ≤ L.length) (h1 : ∀ i,i < k → Zs (gl L i) t = true) (h2 : ∀ i,k ≤ i → i < L.length → Zs (gl L i) t = false) :
    L.contains t = (decide (k < L.length) && (gl L k == t)) := by
  rw [Bool.eq_iff_iff];simp only [List.contains_iff_mem,Bool.and_eq_true,decide_eq_true_eq,beq_iff_eq];constructor
  · intro hm;obtain ⟨i,hi,rfl⟩ := List.mem_iff_getElem.1 hm;have hik : k ≤ i := by
      rcases Nat.lt_or_ge i k with h | h
      · have := h1 i h; rw [Yf hi,yQ] at this; cases this
      · exact h
    have : i = k := by
      rcases Nat.lt_or_ge k i with h | h
      · have a := hs.get h hi;have b := h2 k (Nat.le_refl _) (by omega);rw [Yf hi] at a; rw [b] at a; cases a
      · omega
    subst this;exact ⟨hi,Yf hi⟩
  · rintro ⟨h,rfl⟩;exact xm h

theorem wV {L : List (List Nat)} {t : List Nat} (hs : Sorted L) (hk : ∀ u ∈ L,u.length = t.length) (hL : L.length ≤ 4294967296) (ht : t.length ≤ 4294967296) :
    Zi (NLL L) (NL t) = some (((VA L t : Nat) : Int),L.contains t) := by
  unfold Zi;have key := yy (step := fun s11 =>
  (bif (decide (s11.1 < s11.2)) then (idx (NLL L) (w64 (Int.tdiv (w64 (s11.1 + s11.2)) 2))).bind fun x18 =>
  (YB x18 (NL t)).bind fun r23 =>
  (bif r23 then some (.nx (w64 ((w64 (Int.tdiv (w64 (s11.1 + s11.2)) 2)) + 1),s11.2)) else some (.nx (s11.1,w64 (Int.tdiv (w64 (s11.1 + s11.2)) 2)))) else some (Ctl.br (R := Int × Bool) (s11.1,s11.2))))
    (fun s => ∃ f u : Nat,s = ((f : Int),(u : Int)) ∧ f ≤ u ∧ u ≤ L.length ∧ (∀ i,i < f → Zs (gl L i) t = true) ∧ (∀ i,u ≤ i → i < L.length → Zs (gl L i) t = false))
    (fun s => (s.2 - s.1).toNat) (fun c => ∃ k : Nat,c = .br ((k : Int),(k : Int)) ∧ k ≤ L.length ∧ (∀ i,i < k → Zs (gl L i) t = true) ∧ (∀ i,k ≤ i → i < L.length → Zs (gl L i) t = false))
    FU ((0 : Int),((NLL L).length : Int)) ⟨0,L.length,by simp,by omega,by omega,fun i h => by omega,fun i h h' => by omega⟩ (by simp [FU]; omega)
  have key := key (by
      rintro s ⟨f,u,rfl,hfu,hu,h1,h2⟩;simp only [Yi];by_cases h : f < u
      · left;have hm : (f + u) / 2 < L.length := by omega
        have e : w64 (Int.tdiv (w64 ((f : Int) + (u : Int))) 2) = (((f + u) / 2 : Nat) : Int) := by
          rw [XC (by omega),show (2 : Int) = ((2 : Nat) : Int) from rfl,Vm (by omega)]
        have hgl := hk _ (xm hm);simp only [h,decide_true,ct1,e];rw [xA hm,obs,zaI (by omega) (by omega),obs];cases hlt : Zs (gl L ((f + u) / 2)) t with
        | true =>
          refine ⟨_,rfl,⟨(f + u) / 2 + 1,u,by rw [ZY (by omega)],by omega,hu,fun i hi => ?_,h2⟩,by rw [ZY (by omega)]; simp; omega⟩;by_cases hi' : i = (f + u) / 2
          · rw [hi']; exact hlt
          · exact Yu (hs.get (show i < (f + u) / 2 by omega) hm) hlt
        | false =>
          refine ⟨_,rfl,⟨f,(f + u) / 2,rfl,by omega,by omega,h1,fun i hi hi2 => ?_⟩,by simp; omega⟩;by_cases hi' : i = (f + u) / 2
          · rw [hi']; exact hlt
          · cases hx : Zs (gl L i) t with
            | false => rfl
            | true => have := Yu (hs.get (show (f + u) / 2 < i by omega) hi2) hx; rw [hlt] at this; cases this
      · right;have : f = u := by omega
        subst this;simp only [h,decide_false,ct0];exact ⟨_,rfl,by intro s; simp,f,rfl,hu,h1,h2⟩)
  obtain ⟨c,hc,⟨k,rfl,hkl,h1,h2⟩,_⟩ := key;rw [hc,obs,zY];rw [Ut hkl h1 h2,mem_at hs hkl h1 h2];simp only [yw,Yi];by_cases h : k < L.length
  · simp only [h,decide_true,ct1,Bool.true_and];rw [xA h,obs,wY (by rw [hk _ (xm h)]; exact ht),obs]
  · simp only [h,decide_false,ct0,Bool.false_and]

structure Rel (k : Nat) (L : List (List Nat)) : Prop where
  srt : Sorted L
  len : ∀ u ∈ L,u.length = k

theorem l13Has_eq {k : Nat} {L : List (List Nat)} {t : List Nat} (hR : Rel k L) (hL : L.length ≤ 4294967296) (hk : k ≤ 4294967296) : YC ((k : Int),NLL L) (NL t) = some (L.contains t) := by
  unfold YC;simp only [Xn,zbB];by_cases h : t.length = k
  · simp only [h,beq_self_eq_true,bnt,ct0];rw [wV hR.srt (fun u hu => by rw [hR.len u hu,h]) hL (by omega)]; rfl
  · rw [beq_eq_false_iff_ne.2 h];simp only [bnf,ct1];congr 1;symm;rw [← Bool.not_eq_true,List.contains_iff_mem];intro hm;exact h (hR.len t hm)


theorem sq_le {N : Nat} (h : N ≤ 8) : N * N ≤ 64 := by have := Nat.mul_le_mul h h; omega


def cmp (N : Nat) (T : List Nat) (tabs : List (List Nat)) (i : Nat) : Nat := ga T (ix N 0 (tabs.map fun t => ga t i))

theorem wW (N s : Nat) (A B : List Nat) : ix N s (A ++ B) = ix N (ix N s A) B := by simp [ix]

theorem zar {N K size : Nat} {T : List Nat} {tabs : List (List Nat)} {k : Int} (hN : 1 ≤ N) (h8 : N ≤ 8) (hK : K ≤ 3) (hT : T.length = N ^ K) (ht : tabs.length = K) (hl : ∀ t ∈ tabs,t.length = size) (hx : ∀ t ∈ tabs,∀ x ∈ t,x < N)
    (hs : size ≤ 4294967296) : yo (N : Int) (k,NL T) (NLL tabs) (size : Int) = some (NL ((List.range size).map (cmp N T tabs))) := by
  have h512 := UL h8 hK;unfold yo;rw [XZ (fun i => ((cmp N T tabs i : Nat) : Int)) rfl hs]
  · simp [NL]
  · intro i s hi _;have hlt : ∀ x ∈ tabs.map (fun t => ga t i),x < N := by
      intro x hx';obtain ⟨t,ht',rfl⟩ := List.mem_map.1 hx';exact hx t ht' _ (yp (by rw [hl t ht']; exact hi))
    rw [Xd (fun j => ((ix N 0 ((tabs.take j).map fun t => ga t i) : Nat) : Int)) (n := K) (by simp [ht]) (by omega) (by rfl)]
    · rw [obs,zY,List.take_of_length_le (by omega)];simp only;rw [YN (by rw [hT]; exact Xe hlt (by simpa using ht)),obs];rfl
    · intro j hj;have hg : gl tabs j ∈ tabs := xm (by omega);have e : tabs.take (j + 1) = tabs.take j ++ [gl tabs j] := by
        rw [List.take_succ_eq_append_getElem (by omega),Yf (by omega)]
      have h1 : ∀ x ∈ (tabs.take j).map (fun t => ga t i),x < N := fun x hx' => hlt x (by
        obtain ⟨t,ht',rfl⟩ := List.mem_map.1 hx';exact List.mem_map.2 ⟨t,List.mem_of_mem_take ht',rfl⟩)
      have h2 := Xe (K := j) h1 (by simp; omega);have h3 : N ^ j ≤ N ^ 2 := Nat.pow_le_pow_right (by omega) (by omega);have h4 := sq_le h8;rw [pow2] at h3;have hv : ga (gl tabs j) i < N := hx _ hg _ (yp (by rw [hl _ hg]; exact hi));have h5 := lin2 h2 hv;have h6 : N ^ j * N ≤ 64 * 8 := Nat.mul_le_mul (by omega) h8;rw [xA (by omega),obs,YN (by rw [hl _ hg]; exact hi),obs,yS (by omega),XC (by omega),e,List.map_append,wW];rfl



theorem eqS_refl {α : Type} (eq : α → α → Option Bool) (a : List α) (ha : a.length ≤ 9223372036854775807) (h : ∀ x ∈ a,eq x x = some true) :
    (bif ((a.length : Int) != (a.length : Int)) then some false else (forC (S := Unit) (R := Bool) (fun k s => (idx a k).bind fun x => (idx a k).bind fun y => (eq x y).bind fun r => (bif (!r) then some (.rt false) else some (.nx ()))) 0 (a.length : Int) ()).bind fun o => after o (fun r_ => some r_) (fun s => some true)) = some true := by
  rw [bne_self_eq_false,ct0,Yq (n := a.length) (fun _ => true) false rfl ha]
  · rw [show ((List.range a.length).all fun _ => true) = true by simp]; rfl
  · intro j hj;simp only [yv,gge hj,obs,h _ (List.getElem_mem hj)];rfl

theorem toS_loop {α : Type} (f : α → Option α) (z : α) (a : List α) (ha : a.length ≤ 4294967296) (h : ∀ x ∈ a,f x = some x) :
    ((mks (a.length : Int) z).bind fun y3 => (forC (S := List α) (R := List α) (fun k s => (idx a k).bind fun x => (f x).bind fun r => (idx s k).bind fun _ => some (.nx (List.set s (Int.toNat k) r))) 0 (a.length : Int) y3).bind fun o => after o (fun r_ => some r_) (fun s => some s)) = some a := by
  rw [we rfl ha,obs,ue (fun j => a[j]?.getD z) (z := z) (n := a.length) rfl ha rfl]
  · rw [obs,zY,wB]
  · intro j s hj hs;simp only [yv,gge hj,gge (show j < s.length by omega),obs,h _ (List.getElem_mem hj),Option.getD_some,itn]

def SzOk {α : Type} (sz : α → Int → Option Int) (Bd : α → Prop) (a : α) : Prop := ∀ l : Int,0 ≤ l → l ≤ 1048576 → ∃ v,sz a l = some v ∧ (v < 0 ∨ (Bd a ∧ 0 ≤ v ∧ v ≤ l))

theorem szS_loop {α : Type} (sz : α → Int → Option Int) (Bd : α → Prop) (a : List α) (ha : a.length ≤ 9223372036854775807) (h : ∀ x ∈ a,SzOk sz Bd x) (l : Int) (h0 : 0 ≤ l) (h1 : l ≤ 1048576) :
    ∃ v,(bif (decide ((w64 (l - (a.length : Int))) < 0)) then some (-1) else (forC (S := Int) (R := Int) (fun k s => (idx a k).bind fun x => (sz x s).bind fun r => (bif (decide (r < 0)) then some (.rt (-1)) else some (.nx r))) 0 (a.length : Int) (w64 (l - (a.length : Int)))).bind fun o => after o (fun r_ => some r_) (fun s => some s)) = some v ∧
      (v < 0 ∨ ((a.length ≤ 1048576 ∧ ∀ x ∈ a,Bd x) ∧ 0 ≤ v ∧ v ≤ l)) := by
  rw [Zl (by omega) (by omega)];by_cases hl : l - (a.length : Int) < 0
  · rw [show decide (l - (a.length : Int) < 0) = true by simpa using hl];exact ⟨-1,rfl,.inl (by omega)⟩
  · rw [show decide (l - (a.length : Int) < 0) = false by simpa using hl,ct0];rcases xX (step := fun k s => (idx a k).bind fun x => (sz x s).bind fun r => (bif (decide (r < 0)) then some (Ctl.rt (S := Int) (-1 : Int)) else some (.nx r))) (fun j s => 0 ≤ s ∧ s ≤ l ∧ ∀ i,i < j → ∀ x,a[i]? = some x → Bd x) (fun _ => False) (fun r => r = -1) (n := a.length) rfl (by omega) (s := l - (a.length : Int)) ⟨by omega,by omega,fun i hi => by omega⟩ (by
      rintro j s hj ⟨hs0,hs1,hb⟩;obtain ⟨v,hv,hv'⟩ := h a[j] (List.getElem_mem hj) s hs0 (by omega);simp only [yv,gge hj,obs,hv];rcases hv' with hv' | ⟨hB,hv0,hv1⟩
      · right; right;rw [show decide (v < 0) = true by simpa using hv'];exact ⟨_,rfl,rfl⟩
      · left;rw [show decide (v < 0) = false by simp; omega];refine ⟨_,rfl,hv0,by omega,fun i hi x hx => ?_⟩;by_cases e : i = j
        · subst e;rw [gge hj] at hx;cases hx; exact hB
        · exact hb i (by omega) x hx) with ⟨s',e,⟨a1,a2,a3⟩ | hF⟩ | ⟨r,e,rfl⟩
    · rw [e];refine ⟨s',rfl,.inr ⟨⟨by omega,fun x hx => ?_⟩,a1,a2⟩⟩;obtain ⟨i,hi,rfl⟩ := List.mem_iff_getElem.1 hx;exact a3 i hi _ (gge hi)
    · exact hF.elim
    · rw [e];exact ⟨-1,rfl,.inl (by omega)⟩

def B1 (l : List Int) : Prop := l.length ≤ 1048576

theorem szIntS_ok (a : List Int) (ha : a.length ≤ maxLen) : SzOk YZ B1 a := by
  intro l h0 h1;unfold maxLen at ha;rw [szIntS_eq a l (by omega) h0 (by omega)];by_cases h : l < a.length
  · rw [if_pos h]; exact ⟨-1,rfl,.inl (by omega)⟩
  · rw [if_neg h]; exact ⟨_,rfl,.inr ⟨by unfold B1; omega,by omega,by omega⟩⟩

theorem zbR (a : List Int) (ha : B1 a) : YY a a = some true := by
  unfold B1 at ha; rw [eqIntS_eq a a (by omega)]; simp

theorem toIntS_ok (a : List Int) (ha : B1 a) : xa a = some a := by
  unfold B1 at ha; exact toIntS_eq a (by omega)


def BO (f : Int × List Int) : Prop := B1 f.2

def BA (a : Int × List (Int × List Int)) : Prop := a.2.length ≤ 1048576 ∧ ∀ f ∈ a.2,BO f

theorem szOp_ok (a : Int × List Int) (ha : a.2.length ≤ maxLen) : SzOk xY BO a := by
  intro l h0 h1;obtain ⟨v,hv,h2⟩ := szIntS_ok a.2 ha l h0 h1;unfold xY;rw [hv,obs];by_cases hn : v < 0
  · rw [show decide (v < 0) = true by simpa using hn]; exact ⟨-1,rfl,.inl (by omega)⟩
  · rw [show decide (v < 0) = false by simpa using hn]; exact ⟨v,rfl,h2⟩

theorem eqOp_refl (a : Int × List Int) (ha : BO a) : Xa a a = some true := by
  unfold Xa;rw [bne_self_eq_false,ct0,zbR a.2 ha]; rfl

theorem toOp_ok (a : Int × List Int) (ha : BO a) : Xb a = some a := by
  unfold Xb; rw [toIntS_ok a.2 ha]; rfl

theorem zaV (a : Int × List (Int × List Int)) (ha : a.2.length ≤ maxLen) (h : ∀ f ∈ a.2,f.2.length ≤ maxLen) : SzOk yf BA a := by
  intro l h0 h1;obtain ⟨v,hv,h2⟩ := szS_loop xY BO a.2 (by unfold maxLen at ha; omega) (fun x hx => szOp_ok x (h x hx)) l h0 h1;have hv : XU a.2 l = some v := hv;unfold yf;rw [hv,obs];by_cases hn : v < 0
  · rw [show decide (v < 0) = true by simpa using hn]; exact ⟨-1,rfl,.inl (by omega)⟩
  · rw [show decide (v < 0) = false by simpa using hn]; exact ⟨v,rfl,h2⟩

theorem Ug (a : Int × List (Int × List Int)) (ha : BA a) : Yc a a = some true := by
  have e : XV a.2 a.2 = some true := eqS_refl Xa a.2 (by have := ha.1; omega) (fun x hx => eqOp_refl x (ha.2 x hx));unfold Yc;rw [bne_self_eq_false,ct0,e]; rfl

theorem zaX (a : Int × List (Int × List Int)) (ha : BA a) : yh a = some a := by
  have e : XT a.2 = some a.2 := toS_loop Xb (0,[]) a.2 (by have := ha.1; omega) (fun x hx => toOp_ok x (ha.2 x hx));unfold yh; rw [e]; rfl


def Says (o : Option Bool) (P : Prop) : Prop := ∃ b,o = some b ∧ (b = true ↔ P)

theorem Says.cases {o : Option Bool} {P : Prop} (h : Says o P) : (o = some true ∧ P) ∨ (o = some false ∧ ¬ P) := by
  obtain ⟨b,rfl,hb⟩ := h;cases b with
  | true => exact .inl ⟨rfl,hb.1 rfl⟩
  | false => exact .inr ⟨rfl,fun hp => by cases hb.2 hp⟩

theorem Says.yes {o : Option Bool} {P : Prop} (h : o = some true) (hp : P) : Says o P := ⟨true,h,by simp [hp]⟩

theorem Says.no {o : Option Bool} {P : Prop} (h : o = some false) (hp : ¬ P) : Says o P := ⟨false,h,by simp [hp]⟩

theorem Says.iff {o : Option Bool} {P Q : Prop} (h : Says o P) (hq : P ↔ Q) : Says o Q := by
  obtain ⟨b,rfl,hb⟩ := h; exact ⟨b,rfl,hb.trans hq⟩

def cmpL (a b : List Nat) : Int := if Zs a b then -1 else if Zs b a then 1 else if a.length < b.length then -1 else if b.length < a.length then 1 else 0

theorem UG {a b : List Nat} (h : ∀ i,i < a.length → i < b.length → ga a i = ga b i) : Zs a b = false := by
  induction a generalizing b with
  | nil => cases b <;> rfl
  | cons x a ih =>
    cases b with
    | nil => rfl
    | cons y b =>
      have h0 := h 0 (by simp) (by simp);have h0 : x = y := by simpa [ga] using h0
      simp only [Zs,h0,if_true];exact ih fun i h1 h2 => by
        have := h (i + 1) (by simp; omega) (by simp; omega);simpa [ga] using this

theorem zbZ {a b : List Nat} {j : Nat} (ha : j < a.length) (hb : j < b.length) (h : ∀ i,i < j → ga a i = ga b i) (hj : ga a j < ga b j) : Zs a b = true := by
  induction j generalizing a b with
  | zero =>
    cases a with
    | nil => simp at ha
    | cons x a => cases b with
      | nil => simp at hb
      | cons y b =>
        simp only [ga,List.getD_cons_zero] at hj;simp only [Zs];rw [if_neg (by omega)]; simpa using hj
  | succ j ih =>
    cases a with
    | nil => simp at ha
    | cons x a => cases b with
      | nil => simp at hb
      | cons y b =>
        have h0 : x = y := by simpa [ga] using h 0 (by omega)
        simp only [Zs,h0,if_true];refine ih (by simpa using ha) (by simpa using hb) (fun i hi => ?_) (by simpa [ga] using hj);have := h (i + 1) (by omega);simpa [ga] using this

theorem uT {a b : List Nat} (ha : a.length ≤ 4294967296) : yP (NL a) (NL b) = some (cmpL a b) := by
  unfold yP;obtain ⟨c,hc,hq,_⟩ := yy (R := Int) (step := fun s20 =>
  (bif ((decide (s20 < ((NL a).length : Int))) && (decide (s20 < ((NL b).length : Int)))) then (idx (NL a) s20).bind fun x32 =>
  (idx (NL b) s20).bind fun x34 =>
  (bif (x32 != x34) then (idx (NL a) s20).bind fun x38 =>
  (idx (NL b) s20).bind fun x40 =>
  (bif (decide (x38 < x40)) then some (.rt (-1)) else some (.rt 1)) else some (.nx (w64 (s20 + 1)))) else some (.br s20))) (fun s => ∃ j : Nat,s = (j : Int) ∧ j ≤ a.length ∧ ∀ i,i < j → ga a i = ga b i) (fun s => a.length - s.toNat)
    (fun c => (∃ s,c = .br s ∧ Zs a b = false ∧ Zs b a = false) ∨ (∃ r,c = .rt r ∧ r = cmpL a b)) FU 0 ⟨0,rfl,by omega,fun i h => by omega⟩ (by simp [FU]; omega) (by
    rintro s ⟨j,rfl,h1,h2⟩;simp only [Xn,Yi];by_cases hl : j < a.length ∧ j < b.length
    · simp only [hl.1,hl.2,decide_true,Bool.and_true,ct1];rw [YN hl.1,YN hl.2];simp only [obs,zbB];by_cases he : ga a j = ga b j
      · left;refine ⟨_,by rw [he,beq_self_eq_true]; rfl,⟨j + 1,ZY (by omega),by omega,fun i hi => ?_⟩,by rw [ZY (by omega)]; simp; omega⟩;by_cases e : i = j
        · rw [e]; exact he
        · exact h2 i (by omega)
      · right;rw [beq_eq_false_iff_ne.2 he];simp only [bnf,ct1,Yi];by_cases hlt : ga a j < ga b j
        · rw [show decide (ga a j < ga b j) = true by simpa using hlt];refine ⟨_,rfl,by intro s; simp,.inr ⟨_,rfl,?_⟩⟩;unfold cmpL; rw [zbZ hl.1 hl.2 h2 hlt]; rfl
        · rw [show decide (ga a j < ga b j) = false by simpa using hlt];refine ⟨_,rfl,by intro s; simp,.inr ⟨_,rfl,?_⟩⟩;have := zbZ hl.2 hl.1 (fun i hi => (h2 i hi).symm) (show ga b j < ga a j by omega);unfold cmpL; rw [zbV this,this]; rfl
    · right;have : (decide (j < a.length) && decide (j < b.length)) = false := by
        rw [Bool.eq_false_iff]; simpa using hl
      rw [this,ct0];refine ⟨_,rfl,by intro s; simp,.inl ⟨_,rfl,UG fun i g1 g2 => h2 i (by omega),UG fun i g1 g2 => (h2 i (by omega)).symm⟩⟩)
  rw [hc];rcases hq with ⟨s,rfl,e1,e2⟩ | ⟨r,rfl,rfl⟩
  · simp only [obs,zY,Xn,Yi];unfold cmpL;rw [e1,e2];by_cases h1 : a.length < b.length
    · simp [h1]
    · by_cases h2 : b.length < a.length
      · simp [h1,h2]
      · simp [h1,h2]
  · rfl

theorem cmpL_lt {a b : List Nat} (h : a.length = b.length) : cmpL a b < 0 ↔ Zs a b = true := by
  unfold cmpL;cases h1 : Zs a b with
  | true => simp
  | false =>
    simp only [Bool.false_eq_true,if_false,iff_false];split
    · omega
    · rw [if_neg (by omega),if_neg (by omega)]; omega


structure RelN (N k : Nat) (r : Int × List (List Int)) (L : List (List Nat)) : Prop where
  eq : r = ((k : Int),NLL L)
  k1 : 1 ≤ k
  k3 : k ≤ 3
  rel : Rel k L
  lt : ∀ t ∈ L,∀ x ∈ t,x < N

theorem zcM {α : Type} (l : List α) (P : α → Prop) (f : α → Option Bool) (h : ∀ x ∈ l,Says (f x) (P x)) : ∀ i : Int,Says ((forR (S := Unit) (R := Bool) (fun _ x s => (f x).bind fun r => (bif (!r) then some (.rt false) else some (.nx ()))) i l ()).bind fun o => after o (fun r_ => some r_) (fun _ => some true)) (∀ x ∈ l,P x) := by
  induction l with
  | nil => intro i; exact .yes rfl (by simp)
  | cons x l ih =>
    intro i;have := ih (fun y hy => h y (by simp [hy])) (i + 1);unfold forR;rcases (h x (by simp)).cases with ⟨e,hp⟩ | ⟨e,hp⟩
    · rw [e];refine Says.iff this ?_;simp [hp]
    · rw [e];exact .no rfl (fun H => hp (H x (by simp)))

theorem zdn {α : Type} (l : List α) (P : α → Prop) (f : α → Option Bool) (hl : l.length ≤ 9223372036854775807) (h : ∀ x ∈ l,Says (f x) (P x)) : Says ((forC (S := Unit) (R := Bool) (fun k s => (idx l k).bind fun x => (f x).bind fun r => (bif (!r) then some (.rt false) else some (.nx ()))) 0 (l.length : Int) ()).bind fun o => after o (fun r_ => some r_) (fun _ => some true)) (∀ x ∈ l,P x) := by
  rcases xX (R := Bool) (step := fun k (s : Unit) => (idx l k).bind fun x => (f x).bind fun r => (bif (!r) then some (.rt false) else some (.nx ()))) (fun j _ => ∀ i,i < j → ∀ x,l[i]? = some x → P x) (fun _ => False) (fun b => b = false ∧ ¬ ∀ x ∈ l,P x) (n := l.length) rfl hl (s := ()) (fun i hi => by omega) (by
    rintro j ⟨⟩ hj hI;rw [yv,gge hj,obs];rcases (h _ (List.getElem_mem hj)).cases with ⟨e,hp⟩ | ⟨e,hp⟩
    · left;refine ⟨(),by rw [e]; rfl,fun i hi x hx => ?_⟩;by_cases e' : i = j
      · subst e';rw [gge hj] at hx;cases hx; exact hp
      · exact hI i (by omega) x hx
    · right; right;exact ⟨false,by rw [e]; rfl,rfl,fun H => hp (H _ (List.getElem_mem hj))⟩) with ⟨s',e,h' | h'⟩ | ⟨b,e,rfl,h'⟩
  · refine .yes (by rw [e]; rfl) (fun x hx => ?_);obtain ⟨i,hi,rfl⟩ := List.mem_iff_getElem.1 hx;exact h' i hi _ (gge hi)
  · exact h'.elim
  · exact .no (by rw [e]; rfl) h'


theorem zbT {l : List Int} (h : l.length ≤ 4294967296) : YS l = some l := by
  unfold YS; rw [yC (by simpa using h)]; rfl

theorem Vs {l : List Int} (h : l.length ≤ 4294967296) : yR l = some l := by
  unfold yR; rw [yC (by simpa using h)]; rfl

structure AlgW (a : Int × List (Int × List Int)) (N : Nat) : Prop where
  eN : a.1 = (N : Int)
  n1 : 1 ≤ N
  n8 : N ≤ 8
  l8 : a.2.length ≤ 8
  ops : ∀ f ∈ a.2,∃ K T,OpN N f K T

structure AlgN (a : Int × List (Int × List Int)) (N : Nat) : Prop extends AlgW a N where
  l4 : a.2.length ≤ 4
instance algW_coe {a : Int × List (Int × List Int)} {N : Nat} : Coe (AlgN a N) (AlgW a N) := ⟨AlgN.toAlgW⟩

def IsAlg (a : Int × List (Int × List Int)) : Prop := ∃ N,AlgN a N

theorem zaF {a : Int × List (Int × List Int)} (h : 1 ≤ a.1 ∧ a.1 ≤ 8 ∧ a.2.length ≤ 4) : IsAlg a ↔ ∀ f ∈ a.2,opOk a.1.toNat f = true := by
  constructor
  · rintro ⟨N,hN⟩ f hf;obtain ⟨K,T,ho⟩ := hN.ops f hf;have := hN.eN;rw [show a.1.toNat = N by omega]; exact ho.ok
  · intro H;exact ⟨a.1.toNat,⟨by omega,by omega,by omega,by omega,fun f hf => opOk_elim (H f hf)⟩,h.2.2⟩

theorem WQ (a : Int × List (Int × List Int)) : Says (ZT a) (IsAlg a) := by
  unfold ZT;by_cases h : 1 ≤ a.1 ∧ a.1 ≤ 8 ∧ a.2.length ≤ 4
  · rw [show (((decide (a.1 < 1)) || (decide (8 < a.1))) || (decide (4 < (a.2.length : Int)))) = false by simp; omega,ct0];refine Says.iff (zcM a.2 (fun f => opOk a.1.toNat f = true) (fun x21 => xp (x21.1,x21.2) a.1) (fun f hf => ?_) 0) (zaF h).symm;have : xp (f.1,f.2) a.1 = some (opOk a.1.toNat f) := isOp_eq (N := a.1.toNat) (by omega) (by omega) (by omega) f;exact ⟨_,this,Iff.rfl⟩
  · refine .no ?_ (fun H => ?_)
    · rw [show (((decide (a.1 < 1)) || (decide (8 < a.1))) || (decide (4 < (a.2.length : Int)))) = true by simp; omega]; rfl
    · obtain ⟨N,hN⟩ := H;have := hN.eN;have := hN.n1;have := hN.n8;have := hN.l4;omega

theorem zbS (a : Int × List (Int × List Int)) (hb : BA a) : Says (YE a) (IsAlg a) := by
  unfold YE;rw [zds,obs];by_cases h : 1 ≤ a.1 ∧ a.1 ≤ 8 ∧ a.2.length ≤ 4
  · rw [show (decide (1 ≤ a.1) && decide (a.1 ≤ 8)) = true by simp; omega,bnt,ct0,obs,show decide (4 < (a.2.length : Int)) = false by simp; omega,ct0];refine Says.iff (zdn a.2 (fun f => opOk a.1.toNat f = true) (fun x25 => xv a.1 (x25.1,x25.2)) (by omega) (fun f hf => ?_)) (zaF h).symm;have hf' : f.2.length ≤ 1048576 := hb.2 f hf;have : xv a.1 (f.1,f.2) = some (opOk a.1.toNat f) := l2Op_eq (N := a.1.toNat) (by omega) (by omega) (by omega) f (by omega);exact ⟨_,this,Iff.rfl⟩
  · refine .no ?_ (fun H => ?_)
    · by_cases h1 : 1 ≤ a.1 ∧ a.1 ≤ 8
      · rw [show (decide (1 ≤ a.1) && decide (a.1 ≤ 8)) = true by simp; omega,bnt,ct0,obs,show decide (4 < (a.2.length : Int)) = true by simp; omega]; rfl
      · rw [show (decide (1 ≤ a.1) && decide (a.1 ≤ 8)) = false by rw [Bool.eq_false_iff]; simp; omega]; rfl
    · obtain ⟨N,hN⟩ := H;have := hN.eN;have := hN.n1;have := hN.n8;have := hN.l4;omega

theorem alg_cases (a : Int × List (Int × List Int)) (hb : BA a) : (∃ N,AlgN a N ∧ YE (a.1,a.2) = some true ∧ ZT (a.1,a.2) = some true) ∨
    (¬ IsAlg a ∧ YE (a.1,a.2) = some false ∧ ZT (a.1,a.2) = some false) := by
  rcases (zbS a hb).cases with ⟨e,h⟩ | ⟨e,h⟩
  · rcases (WQ a).cases with ⟨e',_⟩ | ⟨_,h'⟩
    · obtain ⟨N,hn⟩ := h; exact .inl ⟨N,hn,e,e'⟩
    · exact absurd h h'
  · rcases (WQ a).cases with ⟨_,h'⟩ | ⟨e',_⟩
    · exact absurd h' h
    · exact .inr ⟨h,e,e'⟩

theorem OkAlg.sz {a : Int × List (Int × List Int)} (h : OkP OkI (OkL (OkP OkI (OkL OkI))) a) : SzOk yf BA a := zaV a h.2.1 (fun f hf => (h.2.2 f hf).2.1)

theorem OpN.uniq {N K K' : Nat} {f : Int × List Int} {T T' : List Nat} (h : OpN N f K T) (h' : OpN N f K' T') : K' = K ∧ T' = T := by
  have e := h.eq;rw [h'.eq] at e;simp only [Prod.mk.injEq] at e;exact ⟨by omega,NL_inj e.2⟩

section
set_option linter.unusedVariables false

section
variable {α : Type} [Inhabited α]
def at' (l : List α) (k : Nat) : α := l.getD k default
theorem Wp {l : List α} {k : Nat} (h : k < l.length) : at' l k = l[k] := by unfold at'; rw [List.getD_eq_getElem?_getD,gge h]; rfl
theorem at_ext {l m : List α} (hl : l.length = m.length) (h : ∀ k,k < l.length → at' l k = at' m k) : l = m := by
  apply List.ext_getElem hl;intro k h1 h2;have := h k h1
  rwa [Wp h1,Wp h2] at this
theorem zbt {l : List α} {i : Nat} (h : i < l.length) : idx l (i : Int) = some (at' l i) := by
  unfold idx; rw [if_pos (by omega),itn,gge h,Wp h]
def swp2 (l : List α) (i j : Nat) : List α := (l.set i (at' l j)).set j (at' l i)
theorem swp_len (l : List α) (i j : Nat) : (swp2 l i j).length = l.length := by simp [swp2]
theorem zbp {l : List α} {i j : Nat} (hi : i < l.length) (hj : j < l.length) : swx l (i : Int) (j : Int) = some (swp2 l i j) := by
  unfold swx; rw [zbt hi,zbt hj]; rfl
theorem VQ {l : List α} {i j : Nat} (hi : i < l.length) (hj : j < l.length) : (swp2 l i j).Perm l := by
  unfold swp2;exact Um (by rw [gge hi,Wp hi]) (by rw [gge hj,Wp hj])
theorem zaZ {l : List α} {i j k : Nat} (hi : i < l.length) (hj : j < l.length) : at' (swp2 l i j) k = if k = i then at' l j else if k = j then at' l i else at' l k := by
  unfold swp2 at';simp only [List.getD_eq_getElem?_getD,List.getElem?_set,List.length_set];by_cases h1 : k = i
  · subst h1;by_cases h2 : j = k
    · subst h2; simp [hj]
    · simp [h2,hi]
  · by_cases h2 : k = j
    · subst h2; simp [h1,hj]
    · simp [h1,h2,Ne.symm h1,Ne.symm h2]
theorem zbo {ls : α → α → Option Bool} {lt : α → α → Bool} {l : List α} (h : ∀ x ∈ l,∀ y ∈ l,ls x y = some (lt x y)) {i j : Nat} (hi : i < l.length) (hj : j < l.length) : lsx ls l (i : Int) (j : Int) = some (lt (at' l i) (at' l j)) := by
  unfold lsx; rw [zbt hi,zbt hj];exact h _ (by rw [Wp hi]; exact List.getElem_mem hi) _ (by rw [Wp hj]; exact List.getElem_mem hj)
def Cmp (ls : α → α → Option Bool) (lt : α → α → Bool) (l : List α) : Prop := ∀ x ∈ l,∀ y ∈ l,ls x y = some (lt x y)
theorem Cmp.perm {β : Type} {ls : β → β → Option Bool} {lt : β → β → Bool} {l m : List β} (h : Cmp ls lt l) (hp : m.Perm l) : Cmp ls lt m := fun x hx y hy => h x (hp.mem_iff.1 hx) y (hp.mem_iff.1 hy)

theorem Wr {ls : α → α → Option Bool} {l : List α} {a b n : Nat} (hl : l.length ≤ 4294967296) (h1 : a + n ≤ b) (h2 : b + n ≤ l.length) :
    ∃ m,Zu ls l (a : Int) (b : Int) (n : Int) = some m ∧ m.Perm l ∧ ∀ k,at' m k = if a ≤ k ∧ k < a + n then at' l (k + (b - a)) else if b ≤ k ∧ k < b + n then at' l (k - (b - a)) else at' l k := by
  unfold Zu;rcases xX (R := List α) (step := fun k9 s7 => (swx s7 (w64 ((a : Int) + k9)) (w64 ((b : Int) + k9))).bind fun y16 => some (.nx y16))
    (fun t m => m.Perm l ∧ ∀ k,at' m k = if a ≤ k ∧ k < a + t then at' l (k + (b - a)) else if b ≤ k ∧ k < b + t then at' l (k - (b - a)) else at' l k) (fun _ => False) (fun _ => False) (n := n) (hi := (n : Int)) rfl (by omega) (s := l)
    ⟨List.Perm.refl _,fun k => by rw [if_neg (by omega),if_neg (by omega)]⟩ (by
    rintro t m ht ⟨hp,hm⟩;left;have hlm := hp.length_eq;rw [Zl (by omega) (by omega),Zl (by omega) (by omega),show (a : Int) + (t : Int) = ((a + t : Nat) : Int) by omega,show (b : Int) + (t : Int) = ((b + t : Nat) : Int) by omega,zbp (by omega) (by omega),obs];refine ⟨_,rfl,(VQ (by omega) (by omega)).trans hp,fun k => ?_⟩;rw [zaZ (by omega) (by omega)];simp only [hm]
    (repeat' split) <;> first | rfl | (exfalso; omega) | (congr 1; omega)) with ⟨m,e,⟨hp,hm⟩ | h⟩ | ⟨_,_,h⟩
  · exact ⟨m,by rw [e]; rfl,hp,hm⟩
  · exact h.elim
  · exact h.elim
def rotF (l : List α) (a m b k : Nat) : α := if a ≤ k ∧ k < a + (b - m) then at' l (k + (m - a)) else if a + (b - m) ≤ k ∧ k < b then at' l (k - (b - m)) else at' l k
theorem rotate_eq {ls : α → α → Option Bool} {l : List α} {a m b : Nat} (hl : l.length ≤ 4294967296) (h1 : a < m) (h2 : m < b) (h3 : b ≤ l.length) :
    ∃ r,yz ls l (a : Int) (m : Int) (b : Int) = some r ∧ r.Perm l ∧ ∀ k,at' r k = rotF l a m b k := by
  unfold yz;obtain ⟨c,hc,⟨i,q,rfl,hi,him,hq,hqp,hqr⟩,_⟩ := yy (R := List α) (step := fun s15 : Int × Int × List α =>
  (bif (s15.1 != s15.2.1) then (bif (decide (s15.2.1 < s15.1)) then (Zu ls s15.2.2 (w64 ((m : Int) - s15.1)) (m : Int) s15.2.1).bind fun r26 =>
  some (.nx (w64 (s15.1 - s15.2.1),s15.2.1,r26)) else (Zu ls s15.2.2 (w64 ((m : Int) - s15.1)) (w64 ((w64 ((m : Int) + s15.2.1)) - s15.1)) s15.1).bind fun r28 =>
  some (.nx (s15.1,w64 (s15.2.1 - s15.1),r28))) else some (.br (s15.1,s15.2.1,s15.2.2))))
    (fun s => ∃ (i j : Nat) (q : List α),s = ((i : Int),(j : Int),q) ∧ 0 < i ∧ 0 < j ∧ i ≤ m ∧ m + j ≤ l.length ∧ q.Perm l ∧ ∀ k,rotF q (m - i) m (m + j) k = rotF l a m b k) (fun s => s.1.toNat + s.2.1.toNat)
    (fun o => ∃ (i : Nat) (q : List α),o = .br ((i : Int),(i : Int),q) ∧ 0 < i ∧ i ≤ m ∧ m + i ≤ l.length ∧ q.Perm l ∧ ∀ k,rotF q (m - i) m (m + i) k = rotF l a m b k) FU (w64 ((m : Int) - a),w64 ((b : Int) - m),l)
    ⟨m - a,b - m,l,by rw [Zl (by omega) (by omega),Zl (by omega) (by omega),show (m : Int) - a = ((m - a : Nat) : Int) by omega,show (b : Int) - m = ((b - m : Nat) : Int) by omega],by omega,by omega,by omega,by omega,List.Perm.refl _,fun k => by rw [show m - (m - a) = a by omega,show m + (b - m) = b by omega]⟩
    (by rw [Zl (by omega) (by omega),Zl (by omega) (by omega)]; show ((m : Int) - a).toNat + ((b : Int) - m).toNat < FU; unfold FU; omega) (by
    rintro s ⟨i,j,q,rfl,hi,hj,him,hmj,hqp,hqr⟩;dsimp only;have hql := hqp.length_eq;by_cases e : i = j
    · subst e;right;refine ⟨_,by rw [show (((i : Int) != (i : Int)) = false) by simp,ct0],by intro s; simp,i,q,rfl,hi,him,hmj,hqp,hqr⟩
    left;rw [show (((i : Int) != (j : Int)) = true) by simp; omega,ct1];by_cases hlt : j < i
    · rw [show decide ((j : Int) < (i : Int)) = true by simpa using hlt,ct1,Zl (by omega) (by omega),show (m : Int) - i = ((m - i : Nat) : Int) by omega];obtain ⟨q',e',hp',hat⟩ := Wr (ls := ls) (l := q) (a := m - i) (b := m) (n := j) (by omega) (by omega) (by omega);rw [e',obs,Zl (by omega) (by omega)];refine ⟨_,rfl,⟨i - j,j,q',by rw [show (i : Int) - j = ((i - j : Nat) : Int) by omega],by omega,hj,by omega,hmj,hp'.trans hqp,fun k => ?_⟩,by show ((i : Int) - j).toNat + (j : Int).toNat < (i : Int).toNat + (j : Int).toNat; omega⟩;rw [← hqr];unfold rotF;simp only [hat]
      (repeat' split) <;> first | rfl | (exfalso; omega) | (congr 1; omega)
    · rw [show decide ((j : Int) < (i : Int)) = false by simpa using hlt,ct0,Zl (x := (m : Int) - i) (by omega) (by omega),Zl (x := (m : Int) + j) (by omega) (by omega),Zl (x := (m : Int) + j - i) (by omega) (by omega),show (m : Int) - i = ((m - i : Nat) : Int) by omega,show (m : Int) + j - i = ((m + j - i : Nat) : Int) by omega];obtain ⟨q',e',hp',hat⟩ := Wr (ls := ls) (l := q) (a := m - i) (b := m + j - i) (n := i) (by omega) (by omega) (by omega);rw [e',obs,Zl (by omega) (by omega)];refine ⟨_,rfl,⟨i,j - i,q',by rw [show (j : Int) - i = ((j - i : Nat) : Int) by omega],hi,by omega,him,by omega,hp'.trans hqp,fun k => ?_⟩,by show (i : Int).toNat + ((j : Int) - i).toNat < (i : Int).toNat + (j : Int).toNat; omega⟩;rw [← hqr];unfold rotF;simp only [hat]
      (repeat' split) <;> first | rfl | (exfalso; omega) | (congr 1; omega))
  have hql := hqp.length_eq;rw [hc,obs,zY,Zl (by omega) (by omega),show (m : Int) - i = ((m - i : Nat) : Int) by omega];obtain ⟨q',e',hp',hat⟩ := Wr (ls := ls) (l := q) (a := m - i) (b := m) (n := i) (by omega) (by omega) (by omega);refine ⟨q',by rw [e']; rfl,hp'.trans hqp,fun k => ?_⟩;rw [← hqr,hat];unfold rotF
  (repeat' split) <;> first | rfl | (exfalso; omega) | (congr 1; omega)
structure Ordr (lt : α → α → Bool) : Prop where
  asy : ∀ {x y},lt x y = true → lt y x = false
  tr : ∀ {x y z},lt y x = false → lt z y = false → lt z x = false
def Sor (lt : α → α → Bool) (l : List α) (a b : Nat) : Prop := ∀ i j,a ≤ i → i < j → j < b → lt (at' l j) (at' l i) = false
theorem Ordr.rf {β : Type} {lt : β → β → Bool} (O : Ordr lt) (x : β) : lt x x = false := by
  cases h : lt x x with
  | false => rfl
  | true => have := O.asy h; rw [h] at this; cases this
theorem Uq {S R : Type} {step : Int → S → Option (Ctl S R)} (I : Nat → S → Prop) (B : S → Prop) (Q : R → Prop) {lo n : Nat} {s : S} (h0 : lo ≤ n) (h1 : n ≤ 9223372036854775807) (hs : I lo s)
    (h : ∀ j s,lo ≤ j → j < n → I j s → (∃ s',step (j : Int) s = some (.nx s') ∧ I (j + 1) s') ∨ (∃ s',step (j : Int) s = some (.br s') ∧ B s') ∨ (∃ r,step (j : Int) s = some (.rt r) ∧ Q r)) :
    (∃ s',forC step (lo : Int) (n : Int) s = some (.br s') ∧ (I n s' ∨ B s')) ∨ (∃ r,forC step (lo : Int) (n : Int) s = some (.rt r) ∧ Q r) := by
  have := Va (step := step) I B Q (n - lo) lo s hs (fun j s a b c => h j s a (by omega) c);unfold forC;rw [show (decide (-9223372036854775808 ≤ (lo : Int)) && decide ((n : Int) ≤ 9223372036854775807)) = true by simp; omega,ct1,show ((n : Int) - (lo : Int)).toNat = n - lo by omega];rw [show lo + (n - lo) = n by omega] at this;exact this
theorem Vk {ls : α → α → Option Bool} {lt : α → α → Bool} (O : Ordr lt) {l : List α} (hc : Cmp ls lt l) (hl : l.length ≤ 4294967296) {a b : Nat} (h1 : a ≤ b) (h2 : b ≤ l.length) :
    ∃ r,Zz ls l (a : Int) (b : Int) = some r ∧ r.Perm l ∧ Sor lt r a b ∧ ∀ k,k < a ∨ b ≤ k → at' r k = at' l k := by
  unfold Zz;rw [Zl (by omega) (by omega)];by_cases hab : b ≤ a + 1
  · refine ⟨l,?_,List.Perm.refl _,fun i j _ _ _ => by omega,fun _ _ => rfl⟩;unfold forC;rw [show (decide (-9223372036854775808 ≤ (a : Int) + 1) && decide ((b : Int) ≤ 9223372036854775807)) = true by simp; omega,ct1,show ((b : Int) - ((a : Int) + 1)).toNat = 0 by omega];rfl
  rw [show (a : Int) + 1 = ((a + 1 : Nat) : Int) by omega];rcases Uq (R := List α) (step := fun k77 s75 =>
  (iter (S := Int × (List α)) (R := (List α)) (fun s102 =>
  ((bif (decide ((a : Int) < s102.1)) then (lsx ls s102.2 s102.1 (w64 (s102.1 - 1))).bind fun r115 =>
  some r115 else some false)).bind fun s110 =>
  (bif s110 then (swx s102.2 s102.1 (w64 (s102.1 - 1))).bind fun y118 =>
  some (.nx (w64 (s102.1 - 1),y118)) else some (.br (s102.1,s102.2)))) FU (k77,s75)).bind fun o106 => after o106 (fun r_ => some (.rt r_)) (fun s102 =>
  some (.nx s102.2))) (fun i q => q.Perm l ∧ Sor lt q a i ∧ ∀ k,k < a ∨ i ≤ k → at' q k = at' l k) (fun _ => False) (fun _ => False) (lo := a + 1) (n := b) (s := l) (by omega) (by omega)
    ⟨List.Perm.refl _,fun i j _ _ _ => by omega,fun _ _ => rfl⟩ (by
    rintro i q hai hib ⟨hp,hs,hk⟩;left;have hql := hp.length_eq;obtain ⟨c,hcc,⟨j,q',rfl,hp',hs',hk'⟩,_⟩ := yy (R := List α) (step := fun s102 : Int × List α =>
  ((bif (decide ((a : Int) < s102.1)) then (lsx ls s102.2 s102.1 (w64 (s102.1 - 1))).bind fun r115 =>
  some r115 else some false)).bind fun s110 =>
  (bif s110 then (swx s102.2 s102.1 (w64 (s102.1 - 1))).bind fun y118 =>
  some (.nx (w64 (s102.1 - 1),y118)) else some (.br (s102.1,s102.2))))
      (fun s => ∃ (j : Nat) (q' : List α),s = ((j : Int),q') ∧ a ≤ j ∧ j ≤ i ∧ q'.Perm l ∧ (∀ x y,a ≤ x → x < y → y < i + 1 → x ≠ j → y ≠ j → lt (at' q' y) (at' q' x) = false) ∧ (∀ y,j < y → y < i + 1 → lt (at' q' y) (at' q' j) = false) ∧ ∀ k,k < a ∨ i + 1 ≤ k → at' q' k = at' l k)
      (fun s => s.1.toNat) (fun o => ∃ (j : Nat) (q' : List α),o = .br ((j : Int),q') ∧ q'.Perm l ∧ Sor lt q' a (i + 1) ∧ ∀ k,k < a ∨ i + 1 ≤ k → at' q' k = at' l k) FU ((i : Int),q)
      ⟨i,q,rfl,by omega,Nat.le_refl _,hp,fun x y h3 h4 h5 h6 h7 => hs x y h3 h4 (by omega),fun y h3 h4 => by omega,fun k h3 => hk k (by omega)⟩ (by show (i : Int).toNat < FU; unfold FU; omega) (by
      rintro s ⟨j,q',rfl,haj,hji,hp',hs1,hs2,hk'⟩;dsimp only;have hql' := hp'.length_eq;by_cases hja : a < j
      · rw [show decide ((a : Int) < (j : Int)) = true by simpa using hja,ct1,Zl (by omega) (by omega),show (j : Int) - 1 = ((j - 1 : Nat) : Int) by omega,zbo (hc.perm hp') (by omega) (by omega),obs,obs];cases hlt : lt (at' q' j) (at' q' (j - 1)) with
        | true =>
          left;rw [ct1,zbp (by omega) (by omega),obs];have hsa : ∀ k,at' (swp2 q' j (j - 1)) k = if k = j then at' q' (j - 1) else if k = j - 1 then at' q' j else at' q' k := fun k => zaZ (by omega) (by omega)
          refine ⟨_,rfl,⟨j - 1,_,rfl,by omega,by omega,(VQ (by omega) (by omega)).trans hp',fun x y h3 h4 h5 h6 h7 => ?_,fun y h3 h4 => ?_,fun k h3 => ?_⟩,by show ((j - 1 : Nat) : Int).toNat < (j : Int).toNat; omega⟩
          · rw [hsa,hsa,if_neg h7,if_neg h6];by_cases e1 : y = j
            · subst e1;rw [if_pos rfl,if_neg (by omega)];exact hs1 x (y - 1) h3 (by omega) (by omega) (by omega) (by omega)
            · rw [if_neg e1];by_cases e2 : x = j
              · subst e2;rw [if_pos rfl];exact hs1 (x - 1) y (by omega) (by omega) h5 (by omega) e1
              · rw [if_neg e2];exact hs1 x y h3 h4 h5 e2 e1
          · rw [hsa,hsa,if_neg (show ¬ (j - 1 = j) by omega),if_pos rfl,if_neg (by omega : ¬ y = j - 1)];by_cases e1 : y = j
            · subst e1; rw [if_pos rfl]; exact O.asy hlt
            · rw [if_neg e1]; exact hs2 y (by omega) h4
          · rw [hsa,if_neg (by omega),if_neg (by omega)]; exact hk' k h3
        | false =>
          right;refine ⟨_,rfl,by intro s; simp,j,q',rfl,hp',fun x y h3 h4 h5 => ?_,hk'⟩;by_cases e1 : y = j
          · subst e1;by_cases e2 : x = y - 1
            · subst e2; exact hlt
            · exact O.tr (hs1 x (y - 1) h3 (by omega) (by omega) (by omega) (by omega)) hlt
          · by_cases e2 : x = j
            · subst e2; exact hs2 y h4 h5
            · exact hs1 x y h3 h4 h5 e2 e1
      · right;rw [show decide ((a : Int) < (j : Int)) = false by simpa using hja,ct0,obs,ct0];obtain rfl : j = a := by omega
        refine ⟨_,rfl,by intro s; simp,j,q',rfl,hp',fun x y h3 h4 h5 => ?_,hk'⟩;by_cases e2 : x = j
        · subst e2; exact hs2 y h4 h5
        · exact hs1 x y h3 h4 h5 e2 (by omega))
    refine ⟨q',by rw [hcc]; rfl,hp',hs',hk'⟩) with ⟨r,e,⟨hp,hs,hk⟩ | h⟩ | ⟨_,_,h⟩
  · exact ⟨r,by rw [e]; rfl,hp,hs,hk⟩
  · exact h.elim
  · exact h.elim
end

end

section
set_option linter.unusedVariables false
set_option linter.unusedSectionVars false

theorem uZ {x y : Nat} (h : x + y ≤ 9223372036854775807) : w64 (ishr .u64 (IntKind.u64.wrap (w64 ((x : Int) + (y : Int)))) 1) = (((x + y) / 2 : Nat) : Int) := by
  rw [Zl (x := (x : Int) + (y : Int)) (by omega) (by omega)];have e1 : IntKind.u64.wrap ((x : Int) + (y : Int)) = (x : Int) + (y : Int) := by
    unfold IntKind.wrap;simp only [IntKind.bits,IntKind.signed,Bool.false_and,Bool.false_eq_true,if_false];exact Int.emod_eq_of_lt (by omega) (by omega)
  rw [e1];unfold ishr;have e2 : (2 : Int) ^ min (1 : Int).toNat IntKind.u64.bits = 2 := by decide
  rw [e2,Int.fdiv_eq_ediv_of_nonneg _ (by omega)];rw [Zl (by omega) (by omega)];omega
theorem zba {R : Type} {step : Int × Int → Option (Ctl (Int × Int) R)} (p : Nat → Bool) {i0 j0 : Nat} (hij : i0 ≤ j0) (hb : j0 ≤ 4294967296)
    (hstep : ∀ i j : Nat,i0 ≤ i → i < j → j ≤ j0 → step ((i : Int),(j : Int)) = some (.nx (if p ((i + j) / 2) = true then ((((i + j) / 2 + 1 : Nat) : Int),(j : Int)) else ((i : Int),(((i + j) / 2 : Nat) : Int)))))
    (hstop : ∀ i : Nat,step ((i : Int),(i : Int)) = some (.br ((i : Int),(i : Int)))) :
    ∃ i : Nat,iter step FU ((i0 : Int),(j0 : Int)) = some (.br ((i : Int),(i : Int))) ∧ i0 ≤ i ∧ i ≤ j0 ∧ (i = i0 ∨ p (i - 1) = true) ∧ (i = j0 ∨ p i = false) := by
  obtain ⟨c,hc,⟨i,rfl,h1,h2,h3,h4⟩,_⟩ := yy (step := step) (fun s => ∃ i j : Nat,s = ((i : Int),(j : Int)) ∧ i0 ≤ i ∧ i ≤ j ∧ j ≤ j0 ∧ (i = i0 ∨ p (i - 1) = true) ∧ (j = j0 ∨ p j = false)) (fun s => (s.2 - s.1).toNat)
    (fun o => ∃ i : Nat,o = .br ((i : Int),(i : Int)) ∧ i0 ≤ i ∧ i ≤ j0 ∧ (i = i0 ∨ p (i - 1) = true) ∧ (i = j0 ∨ p i = false)) FU ((i0 : Int),(j0 : Int)) ⟨i0,j0,rfl,Nat.le_refl _,hij,Nat.le_refl _,.inl rfl,.inl rfl⟩ (by show ((j0 : Int) - i0).toNat < FU; unfold FU; omega) (by
    rintro s ⟨i,j,rfl,h1,h2,h3,h4,h5⟩;by_cases e : i = j
    · subst e;right;exact ⟨_,hstop i,by intro s; simp,i,rfl,h1,h3,h4,h5⟩
    left;have hlt : i < j := by omega
    refine ⟨_,hstep i j h1 hlt h3,?_,?_⟩
    · by_cases hp : p ((i + j) / 2) = true
      · rw [if_pos hp];exact ⟨(i + j) / 2 + 1,j,rfl,by omega,by omega,h3,.inr (by simpa using hp),h5⟩
      · rw [if_neg hp];exact ⟨i,(i + j) / 2,rfl,h1,by omega,by omega,h4,.inr (by simpa using hp)⟩
    · by_cases hp : p ((i + j) / 2) = true
      · rw [if_pos hp]; show ((j : Int) - ((i + j) / 2 + 1 : Nat)).toNat < ((j : Int) - i).toNat; omega
      · rw [if_neg hp]; show ((((i + j) / 2 : Nat) : Int) - i).toNat < ((j : Int) - i).toNat; omega)
  exact ⟨i,hc,h1,h2,h3,h4⟩
section
variable {α : Type} [Inhabited α] {ls : α → α → Option Bool} {lt : α → α → Bool}
def Rng (r l : List α) (a b : Nat) : Prop := ∀ i,a ≤ i → i < b → ∃ x,a ≤ x ∧ x < b ∧ at' r i = at' l x
theorem Sor.join {r : List α} {a c b : Nat} (h1 : Sor lt r a c) (h2 : Sor lt r c b) (hx : ∀ i j,a ≤ i → i < c → c ≤ j → j < b → lt (at' r j) (at' r i) = false) : Sor lt r a b := fun i j hi hij hj => by
  by_cases e1 : j < c
  · exact h1 i j hi hij e1
  · by_cases e2 : c ≤ i
    · exact h2 i j e2 hij hj
    · exact hx i j hi (by omega) (by omega) hj
theorem Sor.le {l : List α} (O : Ordr lt) {a b : Nat} (h : Sor lt l a b) {i j : Nat} (hi : a ≤ i) (hij : i ≤ j) (hj : j < b) : lt (at' l j) (at' l i) = false := by
  by_cases e : i = j
  · subst e; exact O.rf _
  · exact h i j hi (by omega) hj
theorem un {l r : List α} {a s m e b : Nat} (h1 : a ≤ s) (h2 : s ≤ m) (h3 : m ≤ e) (h4 : e ≤ b) (hr : ∀ k,at' r k = rotF l s m e k)
    (L1 : ∀ x y,a ≤ x → x ≤ y → y < m → lt (at' l y) (at' l x) = false) (L2 : ∀ x y,m ≤ x → x ≤ y → y < b → lt (at' l y) (at' l x) = false)
    (C1 : ∀ x y,m ≤ x → x < e → s ≤ y → y < m → lt (at' l y) (at' l x) = false) (C2 : ∀ x y,a ≤ x → x < s → e ≤ y → y < b → lt (at' l y) (at' l x) = false) :
    ∀ i j,a ≤ i → i < s + (e - m) → s + (e - m) ≤ j → j < b → lt (at' r j) (at' r i) = false := by
  intro i j hi hic hcj hj;rw [hr,hr];unfold rotF
  (repeat' split) <;> first
    | (exfalso; omega)
    | exact C1 _ _ (by omega) (by omega) (by omega) (by omega)
    | exact C2 _ _ (by omega) (by omega) (by omega) (by omega)
    | exact L1 _ _ (by omega) (by omega) (by omega)
    | exact L2 _ _ (by omega) (by omega) (by omega)
theorem US {l r : List α} {a s m e b : Nat} (h1 : a ≤ s) (h2 : s ≤ m) (h3 : m ≤ e) (h4 : e ≤ b) (hr : ∀ k,at' r k = rotF l s m e k)
    (L1 : ∀ x y,a ≤ x → x ≤ y → y < m → lt (at' l y) (at' l x) = false) (L2 : ∀ x y,m ≤ x → x ≤ y → y < b → lt (at' l y) (at' l x) = false) :
    Sor lt r a s ∧ Sor lt r s (s + (e - m)) ∧ Sor lt r (s + (e - m)) e ∧ Sor lt r e b := by
  refine ⟨fun i j hi hij hj => ?_,fun i j hi hij hj => ?_,fun i j hi hij hj => ?_,fun i j hi hij hj => ?_⟩ <;> rw [hr,hr] <;> unfold rotF <;> (repeat' split) <;> first
    | (exfalso; omega)
    | exact L1 _ _ (by omega) (by omega) (by omega)
    | exact L2 _ _ (by omega) (by omega) (by omega)
theorem zbi {l r : List α} {a s m e b : Nat} (h1 : a ≤ s) (h2 : s ≤ m) (h3 : m ≤ e) (h4 : e ≤ b) (hr : ∀ k,at' r k = rotF l s m e k) : Rng r l a b ∧ ∀ k,k < a ∨ b ≤ k → at' r k = at' l k := by
  refine ⟨fun i hi hb => ?_,fun k hk => ?_⟩
  · rw [hr];unfold rotF
    (repeat' split) <;> exact ⟨_,by omega,by omega,rfl⟩
  · rw [hr];unfold rotF
    (repeat' split) <;> first | rfl | (exfalso; omega)
theorem sym_one {l : List α} (O : Ordr lt) (hc : Cmp ls lt l) (hl : l.length ≤ 4294967296) {a m b : Nat} (ham : m = a + 1) (hmb : m < b) (hb : b ≤ l.length) (hs2 : Sor lt l m b) :
    ∃ r,((iter (S := Int × Int) (R := (List α)) (fun s7 =>
  (bif (decide (s7.1 < s7.2)) then (lsx ls l (w64 (ishr .u64 (IntKind.u64.wrap (w64 (s7.1 + s7.2))) 1)) (a : Int)).bind fun r15 =>
  (bif r15 then some (.nx (w64 ((w64 (ishr .u64 (IntKind.u64.wrap (w64 (s7.1 + s7.2))) 1)) + 1),s7.2)) else some (.nx (s7.1,w64 (ishr .u64 (IntKind.u64.wrap (w64 (s7.1 + s7.2))) 1)))) else some (.br (s7.1,s7.2)))) FU ((m : Int),(b : Int))).bind fun o11 => after o11 (fun r_ => some r_) (fun s7 =>
  (forC (S := (List α)) (R := (List α)) (fun k24 s22 =>
  (swx s22 k24 (w64 (k24 + 1))).bind fun y31 =>
  some (.nx y31)) (a : Int) (w64 (s7.1 - 1)) l).bind fun o26 => after o26 (fun r_ => some r_) (fun s22 =>
  some s22))) = some r ∧ r.Perm l ∧ Sor lt r a b ∧ (∀ k,k < a ∨ b ≤ k → at' r k = at' l k) ∧ Rng r l a b := by
  obtain ⟨i,e,h1,h2,h3,h4⟩ := zba (R := List α) (step := fun s7 : Int × Int =>
  (bif (decide (s7.1 < s7.2)) then (lsx ls l (w64 (ishr .u64 (IntKind.u64.wrap (w64 (s7.1 + s7.2))) 1)) (a : Int)).bind fun r15 =>
  (bif r15 then some (.nx (w64 ((w64 (ishr .u64 (IntKind.u64.wrap (w64 (s7.1 + s7.2))) 1)) + 1),s7.2)) else some (.nx (s7.1,w64 (ishr .u64 (IntKind.u64.wrap (w64 (s7.1 + s7.2))) 1)))) else some (.br (s7.1,s7.2))))
    (fun h => lt (at' l h) (at' l a)) (i0 := m) (j0 := b) (by omega) (by omega) (fun i j hi hij hj => by
      dsimp only;rw [show decide ((i : Int) < (j : Int)) = true by simpa using hij,ct1,uZ (by omega),zbo hc (by omega) (by omega),obs];cases lt (at' l ((i + j) / 2)) (at' l a) with
      | true => rw [ct1,Zl (by omega) (by omega)]; simp
      | false => simp) (fun i => by simp)
  rw [e,obs,zY,Zl (by omega) (by omega),show (i : Int) - 1 = ((i - 1 : Nat) : Int) by omega];rcases Uq (R := List α) (step := fun k24 s22 => (swx s22 k24 (w64 (k24 + 1))).bind fun y31 => some (.nx y31)) (fun k q => q.Perm l ∧ ∀ x,at' q x = rotF l a (a + 1) (k + 1) x) (fun _ => False) (fun _ => False) (lo := a) (n := i - 1) (s := l) (by omega) (by omega)
    ⟨List.Perm.refl _,fun x => by unfold rotF; (repeat' split) <;> first | rfl | (exfalso; omega) | (congr 1; omega)⟩ (by
    rintro k q hk1 hk2 ⟨hp,hq⟩;left;have hql := hp.length_eq;rw [Zl (by omega) (by omega),show (k : Int) + 1 = ((k + 1 : Nat) : Int) by omega,zbp (by omega) (by omega),obs];refine ⟨_,rfl,(VQ (by omega) (by omega)).trans hp,fun x => ?_⟩;rw [zaZ (by omega) (by omega),hq,hq,hq];unfold rotF
    (repeat' split) <;> first | rfl | (exfalso; omega) | (congr 1; omega)) with ⟨r,e',⟨hp,hr⟩ | h⟩ | ⟨_,_,h⟩
  · rw [show i - 1 + 1 = i by omega,← ham] at hr;have L1 : ∀ x y,a ≤ x → x ≤ y → y < m → lt (at' l y) (at' l x) = false := fun x y h5 h6 h7 => by
      obtain rfl : x = y := by omega
      exact O.rf _
    have L2 : ∀ x y,m ≤ x → x ≤ y → y < b → lt (at' l y) (at' l x) = false := fun x y h5 h6 h7 => hs2.le O h5 h6 h7
    have hi1 : ∀ x,m ≤ x → x < i → lt (at' l a) (at' l x) = false := fun x h5 h6 => by
      rcases h3 with h3 | h3
      · omega
      · exact O.tr (L2 x (i - 1) h5 (by omega) (by omega)) (O.asy h3)
    have hi2 : ∀ y,i ≤ y → y < b → lt (at' l y) (at' l a) = false := fun y h5 h6 => by
      rcases h4 with h4 | h4
      · omega
      · exact O.tr h4 (L2 i y h1 h5 h6)
    obtain ⟨p1,p2,p3,p4⟩ := US (lt := lt) (Nat.le_refl a) (by omega) h1 h2 hr L1 L2;obtain ⟨q1,q2⟩ := zbi (Nat.le_refl a) (by omega) h1 h2 hr;have hx := un (lt := lt) (Nat.le_refl a) (by omega) h1 h2 hr L1 L2 (fun x y h5 h6 h7 h8 => by
      have e9 : y = a := by omega
      rw [e9]; exact hi1 x h5 h6) (fun x y h5 h6 => by omega)
    refine ⟨r,by rw [e']; rfl,hp,Sor.join p2 (Sor.join p3 p4 fun x y h5 h6 h7 h8 => ?_) hx,q2,q1⟩;rw [hr,hr];unfold rotF
    (repeat' split) <;> first | (exfalso; omega) | (rw [show x - (i - m) = a by omega]; exact hi2 _ h7 h8)
  · exact h.elim
  · exact h.elim
theorem sym_last {l : List α} (O : Ordr lt) (hc : Cmp ls lt l) (hl : l.length ≤ 4294967296) {a m b : Nat} (ham : a < m) (hmb : b = m + 1) (hb : b ≤ l.length) (hs1 : Sor lt l a m) :
    ∃ r,((iter (S := Int × Int) (R := (List α)) (fun s37 =>
  (bif (decide (s37.1 < s37.2)) then (lsx ls l (m : Int) (w64 (ishr .u64 (IntKind.u64.wrap (w64 (s37.1 + s37.2))) 1))).bind fun r45 =>
  (bif (!r45) then some (.nx (w64 ((w64 (ishr .u64 (IntKind.u64.wrap (w64 (s37.1 + s37.2))) 1)) + 1),s37.2)) else some (.nx (s37.1,w64 (ishr .u64 (IntKind.u64.wrap (w64 (s37.1 + s37.2))) 1)))) else some (.br (s37.1,s37.2)))) FU ((a : Int),(m : Int))).bind fun o41 => after o41 (fun r_ => some r_) (fun s37 =>
  (iter (S := Int × (List α)) (R := (List α)) (fun s54 =>
  (bif (decide (s37.1 < s54.1)) then (swx s54.2 s54.1 (w64 (s54.1 - 1))).bind fun y64 =>
  some (.nx (w64 (s54.1 - 1),y64)) else some (.br (s54.1,s54.2)))) FU ((m : Int),l)).bind fun o58 => after o58 (fun r_ => some r_) (fun s54 =>
  some s54.2))) = some r ∧ r.Perm l ∧ Sor lt r a b ∧ (∀ k,k < a ∨ b ≤ k → at' r k = at' l k) ∧ Rng r l a b := by
  obtain ⟨i,e,h1,h2,h3,h4⟩ := zba (R := List α) (step := fun s37 : Int × Int =>
  (bif (decide (s37.1 < s37.2)) then (lsx ls l (m : Int) (w64 (ishr .u64 (IntKind.u64.wrap (w64 (s37.1 + s37.2))) 1))).bind fun r45 =>
  (bif (!r45) then some (.nx (w64 ((w64 (ishr .u64 (IntKind.u64.wrap (w64 (s37.1 + s37.2))) 1)) + 1),s37.2)) else some (.nx (s37.1,w64 (ishr .u64 (IntKind.u64.wrap (w64 (s37.1 + s37.2))) 1)))) else some (.br (s37.1,s37.2))))
    (fun h => !lt (at' l m) (at' l h)) (i0 := a) (j0 := m) (by omega) (by omega) (fun i j hi hij hj => by
      dsimp only;rw [show decide ((i : Int) < (j : Int)) = true by simpa using hij,ct1,uZ (by omega),zbo hc (by omega) (by omega),obs];cases lt (at' l m) (at' l ((i + j) / 2)) with
      | true => simp
      | false => rw [bnf,ct1,Zl (by omega) (by omega)]; simp) (fun i => by simp)
  rw [e,obs,zY];obtain ⟨c,hcc,⟨r,rfl,hp,hr⟩,_⟩ := yy (R := List α) (step := fun s54 : Int × List α =>
  (bif (decide ((i : Int) < s54.1)) then (swx s54.2 s54.1 (w64 (s54.1 - 1))).bind fun y64 =>
  some (.nx (w64 (s54.1 - 1),y64)) else some (.br (s54.1,s54.2))))
    (fun s => ∃ (k : Nat) (q : List α),s = ((k : Int),q) ∧ i ≤ k ∧ k ≤ m ∧ q.Perm l ∧ ∀ x,at' q x = rotF l k m (m + 1) x) (fun s => s.1.toNat) (fun o => ∃ q : List α,o = .br ((i : Int),q) ∧ q.Perm l ∧ ∀ x,at' q x = rotF l i m (m + 1) x) FU ((m : Int),l)
    ⟨m,l,rfl,h2,Nat.le_refl _,List.Perm.refl _,fun x => by unfold rotF; (repeat' split) <;> first | rfl | (exfalso; omega) | (congr 1; omega)⟩ (by show (m : Int).toNat < FU; unfold FU; omega) (by
    rintro s ⟨k,q,rfl,hik,hkm,hp,hq⟩;dsimp only;have hql := hp.length_eq;by_cases e1 : k = i
    · subst e1;right;exact ⟨_,by rw [show decide ((k : Int) < (k : Int)) = false by simp,ct0],by intro s; simp,q,rfl,hp,hq⟩
    left;rw [show decide ((i : Int) < (k : Int)) = true by simp; omega,ct1,Zl (by omega) (by omega),show (k : Int) - 1 = ((k - 1 : Nat) : Int) by omega,zbp (by omega) (by omega),obs];refine ⟨_,rfl,⟨k - 1,_,rfl,by omega,by omega,(VQ (by omega) (by omega)).trans hp,fun x => ?_⟩,by show ((k - 1 : Nat) : Int).toNat < (k : Int).toNat; omega⟩;rw [zaZ (by omega) (by omega),hq,hq,hq];unfold rotF
    (repeat' split) <;> first | rfl | (exfalso; omega) | (congr 1; omega))
  simp only [] at hcc ⊢;rw [hcc];rw [← hmb] at hr;have L1 : ∀ x y,a ≤ x → x ≤ y → y < m → lt (at' l y) (at' l x) = false := fun x y h5 h6 h7 => hs1.le O h5 h6 h7
  have L2 : ∀ x y,m ≤ x → x ≤ y → y < b → lt (at' l y) (at' l x) = false := fun x y h5 h6 h7 => by
    have e9 : x = y := by omega
    rw [e9]; exact O.rf _
  have hi1 : ∀ x,a ≤ x → x < i → lt (at' l m) (at' l x) = false := fun x h5 h6 => by
    rcases h3 with h3 | h3
    · omega
    · exact O.tr (L1 x (i - 1) h5 (by omega) (by omega)) (by simpa using h3)
  have hi2 : ∀ y,i ≤ y → y < m → lt (at' l y) (at' l m) = false := fun y h5 h6 => by
    rcases h4 with h4 | h4
    · omega
    · exact O.tr (O.asy (by simpa using h4)) (L1 i y h1 h5 h6)
  obtain ⟨p1,p2,p3,p4⟩ := US (lt := lt) h1 h2 (show m ≤ b by omega) (Nat.le_refl b) hr L1 L2;obtain ⟨q1,q2⟩ := zbi h1 h2 (show m ≤ b by omega) (Nat.le_refl b) hr;have hx := un (lt := lt) h1 h2 (show m ≤ b by omega) (Nat.le_refl b) hr L1 L2 (fun x y h5 h6 h7 h8 => by
      have e9 : x = m := by omega
      rw [e9]; exact hi2 y h7 h8) (fun x y h5 h6 h7 h8 => by omega)
  refine ⟨r,rfl,hp,Sor.join (Sor.join p1 p2 fun x y h5 h6 h7 h8 => ?_) p3 hx,q2,q1⟩;rw [hr,hr];unfold rotF
  (repeat' split) <;> first | (exfalso; omega) | (rw [show y + (m - i) = m by omega]; exact hi1 _ h5 h6)
theorem Rng.trans {r q l : List α} {a b : Nat} (h : Rng r q a b) (h' : Rng q l a b) : Rng r l a b := fun i hi hb => by
  obtain ⟨x,h1,h2,e⟩ := h i hi hb;obtain ⟨y,h3,h4,e'⟩ := h' x h1 h2;exact ⟨y,h3,h4,e.trans e'⟩
theorem Rng.up {r q : List α} {a c d b : Nat} (h : Rng r q c d) (hk : ∀ k,k < c ∨ d ≤ k → at' r k = at' q k) (h1 : a ≤ c) (h2 : d ≤ b) : Rng r q a b := fun i hi hb => by
  by_cases e : c ≤ i ∧ i < d
  · obtain ⟨x,h3,h4,e⟩ := h i e.1 e.2;exact ⟨x,by omega,by omega,e⟩
  · exact ⟨i,hi,hb,hk i (by omega)⟩
theorem part_eq {O : Ordr lt} {q : List α} {c d : Nat} {t : Bool} {F : Option (List α)} (hs : t = false → Sor lt q c d) (h : t = true → ∃ r,F = some r ∧ r.Perm q ∧ Sor lt r c d ∧ (∀ k,k < c ∨ d ≤ k → at' r k = at' q k) ∧ Rng r q c d) :
    ∃ r,(bif t then F.bind fun r112 => some r112 else some q) = some r ∧ r.Perm q ∧ Sor lt r c d ∧ (∀ k,k < c ∨ d ≤ k → at' r k = at' q k) ∧ Rng r q c d := by
  cases t with
  | true =>
    obtain ⟨r,e,h⟩ := h rfl;exact ⟨r,by rw [ct1,e]; rfl,h⟩
  | false => exact ⟨q,rfl,List.Perm.refl _,hs rfl,fun _ _ => rfl,fun i h1 h2 => ⟨i,h1,h2,rfl⟩⟩
theorem wx (O : Ordr lt) : ∀ (fu : Nat) (l : List α) (a m b : Nat),b - a < fu → Cmp ls lt l → l.length ≤ 4294967296 → a < m → m < b → b ≤ l.length → Sor lt l a m → Sor lt l m b →
    ∃ r,zW fu ls l (a : Int) (m : Int) (b : Int) = some r ∧ r.Perm l ∧ Sor lt r a b ∧ (∀ k,k < a ∨ b ≤ k → at' r k = at' l k) ∧ Rng r l a b
  | 0,_,_,_,_,h,_,_,_,_,_,_,_ => by omega
  | fu + 1,l,a,m,b,hfu,hc,hl,ham,hmb,hb,hs1,hs2 => by
    rw [zW];rw [Zl (x := (m : Int) - a) (by omega) (by omega),Zl (x := (b : Int) - m) (by omega) (by omega)];by_cases c1 : m = a + 1
    · rw [show (((m : Int) - a) == 1) = true by simp; omega,ct1];exact sym_one O hc hl c1 hmb hb hs2
    rw [show (((m : Int) - a) == 1) = false by simp; omega,ct0];by_cases c2 : b = m + 1
    · rw [show (((b : Int) - m) == 1) = true by simp; omega,ct1];exact sym_last O hc hl ham c2 hb hs1
    rw [show (((b : Int) - m) == 1) = false by simp; omega,ct0,uZ (by omega)];generalize hmid : (a + b) / 2 = mid;have hm1 : a < mid := by omega
    have hm2 : mid < b := by omega
    have hn : w64 ((mid : Int) + (m : Int)) = ((mid + m : Nat) : Int) := by rw [Zl (by omega) (by omega)]; omega
    rw [hn];have hst : ∃ s0 r0 : Nat,(bif decide ((mid : Int) < (m : Int)) then some (w64 (((mid + m : Nat) : Int) - (b : Int)),(mid : Int)) else some ((a : Int),(m : Int))) = some ((s0 : Int),(r0 : Int)) ∧ a ≤ s0 ∧ s0 ≤ r0 ∧ r0 ≤ m ∧ r0 ≤ mid ∧ mid + m - s0 ≤ b ∧ m ≤ mid + m - r0 ∧ (s0 = a ∨ mid + m - s0 = b) ∧ (r0 = m ∨ mid + m - r0 = m) := by
      by_cases c3 : mid < m
      · exact ⟨mid + m - b,mid,by rw [show decide ((mid : Int) < (m : Int)) = true by simpa using c3,ct1,Zl (by omega) (by omega)]; congr 2; omega,by omega,by omega,by omega,by omega,by omega,by omega,by omega,by omega⟩
      · exact ⟨a,m,by rw [show decide ((mid : Int) < (m : Int)) = false by simpa using c3,ct0],by omega,by omega,by omega,by omega,by omega,by omega,by omega,by omega⟩
    obtain ⟨s0,r0,est,g1,g2,g3,g4,g5,g6,g7,g8⟩ := hst;rw [est,obs];have hp1 : w64 (((mid + m : Nat) : Int) - 1) = ((mid + m - 1 : Nat) : Int) := by rw [Zl (by omega) (by omega)]; omega
    rw [hp1];obtain ⟨s,e,h1,h2,h3,h4⟩ := zba (R := List α) (step := fun s73 : Int × Int =>
  (bif (decide (s73.1 < s73.2)) then (lsx ls l (w64 (((mid + m - 1 : Nat) : Int) - (w64 (ishr .u64 (IntKind.u64.wrap (w64 (s73.1 + s73.2))) 1)))) (w64 (ishr .u64 (IntKind.u64.wrap (w64 (s73.1 + s73.2))) 1))).bind fun r81 =>
  (bif (!r81) then some (.nx (w64 ((w64 (ishr .u64 (IntKind.u64.wrap (w64 (s73.1 + s73.2))) 1)) + 1),s73.2)) else some (.nx (s73.1,w64 (ishr .u64 (IntKind.u64.wrap (w64 (s73.1 + s73.2))) 1)))) else some (.br (s73.1,s73.2))))
      (fun h => !lt (at' l (mid + m - 1 - h)) (at' l h)) (i0 := s0) (j0 := r0) g2 (by omega) (fun i j hi hij hj => by
        dsimp only;rw [show decide ((i : Int) < (j : Int)) = true by simpa using hij,ct1,uZ (by omega),Zl (x := ((mid + m - 1 : Nat) : Int) - (((i + j) / 2 : Nat) : Int)) (by omega) (by omega),show ((mid + m - 1 : Nat) : Int) - (((i + j) / 2 : Nat) : Int) = ((mid + m - 1 - (i + j) / 2 : Nat) : Int) by omega,zbo hc (by omega) (by omega),obs];cases lt (at' l (mid + m - 1 - (i + j) / 2)) (at' l ((i + j) / 2)) with
        | true => simp
        | false => rw [bnf,ct1,Zl (by omega) (by omega)]; simp) (fun i => by simp)
    dsimp only;rw [e,obs,zY];have he : w64 (((mid + m : Nat) : Int) - (s : Int)) = ((mid + m - s : Nat) : Int) := by rw [Zl (by omega) (by omega)]; omega
    dsimp only;rw [he];generalize hen : mid + m - s = en;have L1 : ∀ x y,a ≤ x → x ≤ y → y < m → lt (at' l y) (at' l x) = false := fun x y h5 h6 h7 => hs1.le O h5 h6 h7
    have L2 : ∀ x y,m ≤ x → x ≤ y → y < b → lt (at' l y) (at' l x) = false := fun x y h5 h6 h7 => hs2.le O h5 h6 h7
    have i1 : a ≤ s := by omega
    have i2 : s ≤ m := by omega
    have i3 : m ≤ en := by omega
    have i4 : en ≤ b := by omega
    have i5 : s + (en - m) = mid := by omega
    have C1 : ∀ x y,m ≤ x → x < en → s ≤ y → y < m → lt (at' l y) (at' l x) = false := fun x y h5 h6 h7 h8 => by
      rcases h4 with h4 | h4
      · omega
      · have h9 : lt (at' l (en - 1)) (at' l s) = true := by
          have := h4;simp only [Bool.not_eq_false'] at this
          rwa [show mid + m - 1 - s = en - 1 by omega] at this
        exact O.tr (O.tr (L2 x (en - 1) h5 (by omega) (by omega)) (O.asy h9)) (L1 s y i1 h7 h8)
    have C2 : ∀ x y,a ≤ x → x < s → en ≤ y → y < b → lt (at' l y) (at' l x) = false := fun x y h5 h6 h7 h8 => by
      rcases h3 with h3 | h3
      · omega
      · have h9 : lt (at' l en) (at' l (s - 1)) = false := by
          have := h3;simp only [Bool.not_eq_true'] at this
          rwa [show mid + m - 1 - (s - 1) = en by omega] at this
        exact O.tr (O.tr (L1 x (s - 1) h5 (by omega) (by omega)) h9) (L2 en y i3 h7 h8)
    have hrot : ∃ q,(bif decide ((s : Int) < (m : Int)) && decide ((m : Int) < (en : Int)) then (yz ls l (s : Int) (m : Int) (en : Int)).bind fun r97 => some r97 else some l) = some q ∧ q.Perm l ∧ ∀ k,at' q k = rotF l s m en k := by
      by_cases c4 : s < m ∧ m < en
      · obtain ⟨q,e1,e2,e3⟩ := rotate_eq (ls := ls) hl c4.1 c4.2 (by omega);refine ⟨q,?_,e2,e3⟩;rw [show (decide ((s : Int) < (m : Int)) && decide ((m : Int) < (en : Int))) = true by simp; omega,ct1,e1]; rfl
      · refine ⟨l,?_,List.Perm.refl _,fun k => ?_⟩
        · rw [show (decide ((s : Int) < (m : Int)) && decide ((m : Int) < (en : Int))) = false by rw [Bool.eq_false_iff]; simp; omega]; rfl
        · unfold rotF
          (repeat' split) <;> first | rfl | (exfalso; omega) | (congr 1; omega)
    obtain ⟨q,eq,hqp,hq⟩ := hrot;rw [eq,obs];obtain ⟨p1,p2,p3,p4⟩ := US (lt := lt) i1 i2 i3 i4 hq L1 L2;obtain ⟨q1,q2⟩ := zbi i1 i2 i3 i4 hq;have hx := un (lt := lt) i1 i2 i3 i4 hq L1 L2 C1 C2;rw [i5] at p2 p3 hx;have hql := hqp.length_eq;obtain ⟨u,eu,hup,hus,huk,hur⟩ := part_eq (O := O) (q := q) (c := a) (d := mid) (t := decide ((a : Int) < (s : Int)) && decide ((s : Int) < (mid : Int))) (F := zW fu ls q (a : Int) (s : Int) (mid : Int)) (fun ht => by
        rcases Nat.lt_or_ge a s with h5 | h5
        · have : s = mid := by
            rw [Bool.and_eq_false_iff] at ht;simp at ht;omega
          rw [← this]; exact p1
        · have : s = a := by omega
          rw [← this]; exact p2) (fun ht => by
        simp at ht;exact wx O fu q a s mid (by omega) (hc.perm hqp) (by omega) (by omega) (by omega) (by omega) p1 p2)
    rw [eu,obs];have hul := hup.length_eq;have hsr : ∀ c d,mid ≤ c → Sor lt q c d → Sor lt u c d := fun c d h5 h6 i j h7 h8 h9 => by rw [huk i (by omega),huk j (by omega)]; exact h6 i j h7 h8 h9
    obtain ⟨v,ev,hvp,hvs,hvk,hvr⟩ := part_eq (O := O) (q := u) (c := mid) (d := b) (t := decide ((mid : Int) < (en : Int)) && decide ((en : Int) < (b : Int))) (F := zW fu ls u (mid : Int) (en : Int) (b : Int)) (fun ht => by
        rcases Nat.lt_or_ge mid en with h5 | h5
        · have : en = b := by
            rw [Bool.and_eq_false_iff] at ht;simp at ht;omega
          rw [← this]; exact hsr _ _ (Nat.le_refl _) p3
        · have : en = mid := by omega
          rw [← this]; exact hsr _ _ (by omega) p4) (fun ht => by
        simp at ht;exact wx O fu u mid en b (by omega) (hc.perm (hup.trans hqp)) (by omega) (by omega) (by omega) (by omega) (hsr _ _ (Nat.le_refl _) p3) (hsr _ _ (by omega) p4))
    refine ⟨v,ev,hvp.trans (hup.trans hqp),?_,fun k hk => ?_,?_⟩
    · refine Sor.join (c := mid) (fun i j h5 h6 h7 => by rw [hvk i (by omega),hvk j (by omega)]; exact hus i j h5 h6 h7) hvs (fun i j h5 h6 h7 h8 => ?_);obtain ⟨y,y1,y2,y3⟩ := hvr j h7 h8;obtain ⟨x,x1,x2,x3⟩ := hur i h5 h6;rw [hvk i (by omega),y3,x3,huk y (by omega)];exact hx x y x1 x2 y1 y2
    · rw [hvk k (by omega),huk k (by omega),q2 k hk]
    · exact ((hvr.up hvk (by omega) (Nat.le_refl _)).trans (hur.up huk (Nat.le_refl _) (by omega))).trans q1
end

end

section
set_option linter.unusedVariables false
set_option linter.unusedSectionVars false
section
variable {α : Type} [Inhabited α] {ls : α → α → Option Bool} {lt : α → α → Bool}
def Blk (lt : α → α → Bool) (l : List α) (B lo n : Nat) : Prop := ∀ k,lo ≤ k * B → k * B < n → Sor lt l (k * B) (min (k * B + B) n)
theorem zcj (O : Ordr lt) {l : List α} (hc : Cmp ls lt l) {n B : Nat} (hn : l.length = n) (hl : n ≤ 1000000000) (hB : 0 < B) (hBn : B < n) (hb : Blk lt l B 0 n) :
    ∃ (t : Nat) (q r : List α),iter (S := Int × Int × (List α)) (R := (List α)) (fun s83 =>
  (bif (decide (s83.2.1 ≤ (n : Int))) then (zW FU ls s83.2.2 s83.1 (w64 (s83.1 + (B : Int))) s83.2.1).bind fun r93 =>
  some (.nx (s83.2.1,w64 (s83.2.1 + (w64 (2 * (B : Int)))),r93)) else some (.br (s83.1,s83.2.1,s83.2.2)))) FU (0,w64 (2 * (B : Int)),l) = some (.br (((t * (2 * B) : Nat) : Int),((t * (2 * B) + 2 * B : Nat) : Int),q)) ∧
      t * (2 * B) ≤ n ∧ n < t * (2 * B) + 2 * B ∧ q.Perm l ∧ (bif (decide ((w64 (((t * (2 * B) : Nat) : Int) + (B : Int))) < (n : Int))) then (zW FU ls q ((t * (2 * B) : Nat) : Int) (w64 (((t * (2 * B) : Nat) : Int) + (B : Int))) (n : Int)) else some q) = some r ∧ r.Perm l ∧ Blk lt r (2 * B) 0 n := by
  have w2 : w64 (2 * (B : Int)) = ((2 * B : Nat) : Int) := by rw [Zl (by omega) (by omega)]; omega
  rw [w2];obtain ⟨c,hcc,⟨t,q,rfl,h1,h2,hp,hd,hr⟩,_⟩ := yy (R := List α) (step := fun s83 : Int × Int × List α =>
  (bif (decide (s83.2.1 ≤ (n : Int))) then (zW FU ls s83.2.2 s83.1 (w64 (s83.1 + (B : Int))) s83.2.1).bind fun r93 =>
  some (.nx (s83.2.1,w64 (s83.2.1 + ((2 * B : Nat) : Int)),r93)) else some (.br (s83.1,s83.2.1,s83.2.2))))
    (fun s => ∃ (t : Nat) (q : List α),s = (((t * (2 * B) : Nat) : Int),((t * (2 * B) + 2 * B : Nat) : Int),q) ∧ t * (2 * B) ≤ n ∧ q.Perm l ∧ (∀ k,k < t → Sor lt q (k * (2 * B)) (k * (2 * B) + 2 * B)) ∧ Blk lt q B (t * (2 * B)) n) (fun s => n + 1 - s.1.toNat)
    (fun o => ∃ (t : Nat) (q : List α),o = .br (((t * (2 * B) : Nat) : Int),((t * (2 * B) + 2 * B : Nat) : Int),q) ∧ t * (2 * B) ≤ n ∧ n < t * (2 * B) + 2 * B ∧ q.Perm l ∧ (∀ k,k < t → Sor lt q (k * (2 * B)) (k * (2 * B) + 2 * B)) ∧ Blk lt q B (t * (2 * B)) n) FU (0,((2 * B : Nat) : Int),l)
    ⟨0,l,by simp,by omega,List.Perm.refl _,fun k hk => by omega,by simpa using hb⟩ (by unfold FU; simp; omega) (by
    rintro s ⟨t,q,rfl,ht,hp,hd,hr⟩;dsimp only;have hql := hp.length_eq;generalize hP : t * (2 * B) = p at *;by_cases h : p + 2 * B ≤ n
    · left;have e1 : (2 * t) * B = p := by rw [← hP,Nat.mul_comm 2 t,Nat.mul_assoc]
      have e2 : (2 * t + 1) * B = p + B := by rw [Nat.add_mul,e1,Nat.one_mul]
      have s1 := hr (2 * t) (by omega) (by omega);have s2 := hr (2 * t + 1) (by omega) (by omega);rw [e1,show min (p + B) n = p + B by omega] at s1;rw [e2,show min (p + B + B) n = p + 2 * B by omega] at s2;obtain ⟨r,e,g1,g2,g3,_⟩ := wx (ls := ls) O FU q p (p + B) (p + 2 * B) (by unfold FU; omega) (hc.perm hp) (by omega) (by omega) (by omega) (by omega) s1 s2;rw [show decide (((p + 2 * B : Nat) : Int) ≤ (n : Int)) = true by simp; omega,ct1,Zl (x := (p : Int) + (B : Int)) (by omega) (by omega),show (p : Int) + (B : Int) = ((p + B : Nat) : Int) by omega,e,obs,Zl (by omega) (by omega)];have e3 : (t + 1) * (2 * B) = p + 2 * B := by rw [Nat.add_mul,hP,Nat.one_mul]
      refine ⟨_,rfl,⟨t + 1,r,by rw [e3,show ((p + 2 * B : Nat) : Int) + ((2 * B : Nat) : Int) = ((p + 2 * B + 2 * B : Nat) : Int) by omega],by omega,g1.trans hp,fun k hk => ?_,fun k hk1 hk2 => ?_⟩,by simp only [itn]; omega⟩
      · by_cases e4 : k = t
        · subst e4; rw [hP]; exact g2
        · have : (k + 1) * (2 * B) ≤ t * (2 * B) := Nat.mul_le_mul_right _ (by omega);rw [Nat.add_mul,Nat.one_mul,hP] at this;intro i j h4 h5 h6;rw [g3 i (by omega),g3 j (by omega)];exact hd k (by omega) i j h4 h5 h6
      · rw [e3] at hk1;intro i j h4 h5 h6;rw [g3 i (by omega),g3 j (by omega)];exact hr k (by omega) hk2 i j h4 h5 h6
    · right;exact ⟨_,by rw [show decide (((p + 2 * B : Nat) : Int) ≤ (n : Int)) = false by simp; omega,ct0],by intro s; simp,t,q,by rw [hP],by omega,by omega,hp,hd,by rw [hP]; exact hr⟩)
  refine ⟨t,q,?_⟩;have hql := hp.length_eq;generalize hP : t * (2 * B) = p at *;have e1 : (2 * t) * B = p := by rw [← hP,Nat.mul_comm 2 t,Nat.mul_assoc]
  have e2 : (2 * t + 1) * B = p + B := by rw [Nat.add_mul,e1,Nat.one_mul]
  have fin : ∀ r : List α,(∀ k,k < p → at' r k = at' q k) → Sor lt r p n → Blk lt r (2 * B) 0 n := fun r hk hs k _ hkn => by
    by_cases e4 : k < t
    · have : (k + 1) * (2 * B) ≤ t * (2 * B) := Nat.mul_le_mul_right _ (by omega);rw [Nat.add_mul,Nat.one_mul,hP] at this;intro i j h4 h5 h6;rw [hk i (by omega),hk j (by omega)];exact hd k e4 i j h4 h5 (by omega)
    · by_cases e5 : k = t
      · subst e5;rw [hP];intro i j h4 h5 h6;exact hs i j h4 h5 (by omega)
      · have : (t + 1) * (2 * B) ≤ k * (2 * B) := Nat.mul_le_mul_right _ (by omega);rw [Nat.add_mul,Nat.one_mul,hP] at this;omega
  rw [Zl (x := (p : Int) + (B : Int)) (by omega) (by omega),show (p : Int) + (B : Int) = ((p + B : Nat) : Int) by omega];by_cases h : p + B < n
  · have s1 := hr (2 * t) (by omega) (by omega);have s2 := hr (2 * t + 1) (by omega) (by omega);rw [e1,show min (p + B) n = p + B by omega] at s1;rw [e2,show min (p + B + B) n = n by omega] at s2;obtain ⟨r,e,g1,g2,g3,_⟩ := wx (ls := ls) O FU q p (p + B) n (by unfold FU; omega) (hc.perm hp) (by omega) (by omega) (by omega) (by omega) s1 s2;exact ⟨r,hcc,h1,h2,hp,by rw [show decide (((p + B : Nat) : Int) < (n : Int)) = true by simp; omega,ct1,e],g1.trans hp,fin r (fun k hk => g3 k (by omega)) g2⟩
  · refine ⟨q,hcc,h1,h2,hp,by rw [show decide (((p + B : Nat) : Int) < (n : Int)) = false by simp; omega,ct0],hp,fin q (fun _ _ => rfl) ?_⟩;by_cases hpn : p < n
    · have s1 := hr (2 * t) (by omega) (by omega);rw [e1,show min (p + B) n = n by omega] at s1;exact s1
    · intro i j _ _ _; omega
theorem stable_eq (O : Ordr lt) {l : List α} (hc : Cmp ls lt l) (hl : l.length ≤ 1000000000) :
    ∃ r,Yj ls l (l.length : Int) = some r ∧ r.Perm l ∧ Sor lt r 0 l.length := by
  generalize hn : l.length = n at *;unfold Yj;obtain ⟨c,hcc,⟨a,q,rfl,ha1,ha2,hp,hs⟩,_⟩ := yy (R := List α) (step := fun s9 : Int × Int × List α =>
  (bif (decide (s9.2.1 ≤ (n : Int))) then (Zz ls s9.2.2 s9.1 s9.2.1).bind fun r19 =>
  some (.nx (s9.2.1,w64 (s9.2.1 + 20),r19)) else some (.br (s9.1,s9.2.1,s9.2.2))))
    (fun s => ∃ (t : Nat) (q : List α),s = (((t * 20 : Nat) : Int),(((t + 1) * 20 : Nat) : Int),q) ∧ t * 20 ≤ n ∧ q.Perm l ∧ ∀ k,k < t → Sor lt q (k * 20) ((k + 1) * 20)) (fun s => (n + 20 - s.1.toNat))
    (fun o => ∃ (t : Nat) (q : List α),o = .br (((t * 20 : Nat) : Int),(((t + 1) * 20 : Nat) : Int),q) ∧ t * 20 ≤ n ∧ n < (t + 1) * 20 ∧ q.Perm l ∧ ∀ k,k < t → Sor lt q (k * 20) ((k + 1) * 20)) FU (0,20,l)
    ⟨0,l,by simp,by omega,List.Perm.refl _,fun k hk => by omega⟩ (by unfold FU; simp; omega) (by
    rintro s ⟨t,q,rfl,ht,hp,hs⟩;dsimp only;have hql := hp.length_eq;by_cases h : (t + 1) * 20 ≤ n
    · left;obtain ⟨r,e,h1,h2,h3⟩ := Vk O (hc.perm hp) (l := q) (a := t * 20) (b := (t + 1) * 20) (by omega) (by omega) (by omega);rw [show decide ((((t + 1) * 20 : Nat) : Int) ≤ (n : Int)) = true by simp; omega,ct1,e,obs,Zl (by omega) (by omega)];refine ⟨_,rfl,⟨t + 1,r,by rw [show (((t + 1) * 20 : Nat) : Int) + 20 = (((t + 1 + 1) * 20 : Nat) : Int) by omega],h,h1.trans hp,fun k hk => ?_⟩,by simp only [itn]; omega⟩;by_cases e1 : k = t
      · subst e1; exact h2
      · intro i j h4 h5 h6;rw [h3 i (by omega),h3 j (by omega)];exact hs k (by omega) i j h4 h5 h6
    · right;exact ⟨_,by rw [show decide ((((t + 1) * 20 : Nat) : Int) ≤ (n : Int)) = false by simp; omega,ct0],by intro s; simp,t,q,rfl,ht,by omega,hp,hs⟩)
  have hql := hp.length_eq;rw [show (((n : Nat) : Int)) = (n : Int) from rfl];obtain ⟨r1,e1,g1,g2,g3⟩ := Vk O (hc.perm hp) (l := q) (a := a * 20) (b := n) (by omega) (by omega) (by omega);rw [hcc,obs,zY];dsimp only;rw [e1,obs];have hb1 : Blk lt r1 20 0 n := fun k _ hk => by
    by_cases e4 : k < a
    · intro i j h4 h5 h6;rw [g3 i (by omega),g3 j (by omega)];exact hs k e4 i j h4 h5 (by omega)
    · obtain rfl : k = a := by omega
      intro i j h4 h5 h6;exact g2 i j h4 h5 (by omega)
  obtain ⟨c,hcc2,⟨B,x,y,r,rfl,h1,h2,h3⟩,_⟩ := yy (R := List α) (step := fun s67 : Int × Int × Int × List α =>
  (bif (decide (s67.1 < (n : Int))) then (iter (S := Int × Int × (List α)) (R := (List α)) (fun s83 =>
  (bif (decide (s83.2.1 ≤ (n : Int))) then (zW FU ls s83.2.2 s83.1 (w64 (s83.1 + s67.1)) s83.2.1).bind fun r93 =>
  some (.nx (s83.2.1,w64 (s83.2.1 + (w64 (2 * s67.1))),r93)) else some (.br (s83.1,s83.2.1,s83.2.2)))) FU (0,w64 (2 * s67.1),s67.2.2.2)).bind fun o87 => after o87 (fun r_ => some (.rt r_)) (fun s83 =>
  (bif (decide ((w64 (s83.1 + s67.1)) < (n : Int))) then (zW FU ls s83.2.2 s83.1 (w64 (s83.1 + s67.1)) (n : Int)).bind fun r96 =>
  some (.nx (w64 (s67.1 * 2),s83.1,s83.2.1,r96)) else some (.nx (w64 (s67.1 * 2),s83.1,s83.2.1,s83.2.2)))) else some (.br (s67.1,s67.2.1,s67.2.2.1,s67.2.2.2))))
    (fun s => ∃ (B : Nat) (x y : Int) (r : List α),s = ((B : Int),x,y,r) ∧ 20 ≤ B ∧ B ≤ 2 * n + 20 ∧ r.Perm l ∧ Blk lt r B 0 n) (fun s => n + 1 - s.1.toNat)
    (fun o => ∃ (B : Nat) (x y : Int) (r : List α),o = .br ((B : Int),x,y,r) ∧ n ≤ B ∧ r.Perm l ∧ Blk lt r B 0 n) FU (20,((a * 20 : Nat) : Int),(((a + 1) * 20 : Nat) : Int),r1)
    ⟨20,_,_,r1,rfl,by omega,by omega,g1.trans hp,hb1⟩ (by unfold FU; simp; omega) (by
    rintro s ⟨B,x,y,r,rfl,h1,h2,h3,h4⟩;dsimp only;have hrl := h3.length_eq;by_cases h : B < n
    · left;obtain ⟨t,q',r',e,f1,f2,f3,f4,f5,f6⟩ := zcj O (hc.perm h3) (by omega) (by omega) (by omega) h h4;rw [show decide ((B : Int) < (n : Int)) = true by simpa using h,ct1,e,obs,zY];dsimp only;cases hcnd : decide (w64 (((t * (2 * B) : Nat) : Int) + (B : Int)) < (n : Int)) with
      | true =>
        rw [hcnd,ct1] at f4;rw [ct1,f4,obs,Zl (by omega) (by omega)];exact ⟨_,rfl,⟨2 * B,_,_,r',by rw [show (B : Int) * 2 = ((2 * B : Nat) : Int) by omega],by omega,by omega,f5.trans h3,f6⟩,by show n + 1 - ((B : Int) * 2).toNat < n + 1 - (B : Int).toNat; omega⟩
      | false =>
        rw [hcnd,ct0] at f4;rw [ct0,Zl (by omega) (by omega)];obtain rfl := Option.some.inj f4;exact ⟨_,rfl,⟨2 * B,_,_,q',by rw [show (B : Int) * 2 = ((2 * B : Nat) : Int) by omega],by omega,by omega,f5.trans h3,f6⟩,by show n + 1 - ((B : Int) * 2).toNat < n + 1 - (B : Int).toNat; omega⟩
    · right;exact ⟨_,by rw [show decide ((B : Int) < (n : Int)) = false by simpa using h,ct0],by intro s; simp,B,x,y,r,rfl,by omega,h3,h4⟩)
  refine ⟨r,by rw [hcc2]; rfl,h2,?_⟩;by_cases hn0 : 0 < n
  · have := h3 0 (by omega) (by omega);rw [Nat.zero_mul,Nat.zero_add,show min B n = n by omega] at this;exact this
  · intro i j _ _ _; omega
end

end

theorem zcD {r : List (List Int)} {L : List (List Nat)} (h : r.Perm (NLL L)) : ∃ M : List (List Nat),r = NLL M ∧ M.Perm L := by
  refine ⟨r.map (·.map Int.toNat),?_,?_⟩
  · unfold NLL;rw [List.map_map]
    conv => lhs; rw [← List.map_id r]
    refine List.map_congr_left fun x hx => ?_
    have := h.mem_iff.1 hx;unfold NLL at this;obtain ⟨t,_,rfl⟩ := List.mem_map.1 this;show NL t = NL ((NL t).map Int.toNat);rw [wj]
  · have := h.map (·.map Int.toNat);unfold NLL at this;rw [List.map_map] at this;have e : L.map ((fun x => x.map Int.toNat) ∘ NL) = L := by
      conv => rhs; rw [← List.map_id L]
      exact List.map_congr_left fun x _ => wj x
    rwa [e] at this

theorem uJ {ls : List Int → List Int → Option Bool} {lt : List Nat → List Nat → Bool} (O : Ordr lt) {L : List (List Nat)} (hc : ∀ x ∈ L,∀ y ∈ L,ls (NL x) (NL y) = some (lt x y)) (hl : L.length ≤ 1000000000) :
    ∃ M : List (List Nat),Yg ls (NLL L) (NLL L).length = some (NLL M) ∧ M.Perm L ∧ M.Pairwise fun a b => lt b a = false := by
  have hcm : Cmp ls (fun x y => lt (x.map Int.toNat) (y.map Int.toNat)) (NLL L) := by
    intro x hx y hy;unfold NLL at hx hy;obtain ⟨a,ha,rfl⟩ := List.mem_map.1 hx;obtain ⟨b,hb,rfl⟩ := List.mem_map.1 hy;rw [hc a ha b hb];show _ = some (lt ((NL a).map Int.toNat) ((NL b).map Int.toNat));rw [wj,wj]
  have O' : Ordr (fun x y : List Int => lt (x.map Int.toNat) (y.map Int.toNat)) := ⟨fun h => O.asy h,fun h h' => O.tr h h'⟩;obtain ⟨r,e,hp,hs⟩ := stable_eq O' hcm (by unfold NLL; simpa using hl);obtain ⟨M,rfl,hM⟩ := zcD hp;refine ⟨M,by unfold Yg; rw [e]; rfl,hM,?_⟩;rw [List.pairwise_iff_getElem];intro i j hi hj hij;have hlen : M.length = L.length := hM.length_eq;have := hs i j (Nat.zero_le _) hij (by unfold NLL; simpa [hlen] using hj);have ei : at' (NLL M) i = NL M[i] := by rw [Wp (by unfold NLL; simpa using hi)]; unfold NLL; simp
  have ej : at' (NLL M) j = NL M[j] := by rw [Wp (by unfold NLL; simpa using hj)]; unfold NLL; simp
  rw [ei,ej] at this;have this : lt ((NL M[j]).map Int.toNat) ((NL M[i]).map Int.toNat) = false := this
  rwa [wj,wj] at this

section
set_option linter.unusedVariables false
section
variable {α : Type}
inductive Reach (I : List α) (nx : α → List α) : α → Prop
  | init {x : α} : x ∈ I → Reach I nx x
  | step {x y : α} : Reach I nx x → y ∈ nx x → Reach I nx y
structure Wl (I : List α) (nx : α → List α) (L : List α) (i k : Nat) : Prop where
  nd : L.Nodup
  reach : ∀ x ∈ L,Reach I nx x
  sub : ∀ x ∈ I,x ∈ L
  done : ∀ j (h : j < L.length),j < i → ∀ y ∈ nx L[j],y ∈ L
  part : ∀ (h : i < L.length),∀ y ∈ (nx L[i]).take k,y ∈ L
theorem Wl.start {I : List α} {nx : α → List α} (h : I.Nodup) : Wl I nx I 0 0 := ⟨h,fun x hx => .init hx,fun _ h => h,fun _ _ h => (by omega),fun h y hy => by simp at hy⟩
theorem Wl.next {I : List α} {nx : α → List α} {L : List α} {i k : Nat} (h : Wl I nx L i k) (hi : i < L.length) (hk : (nx L[i]).length ≤ k) : Wl I nx L (i + 1) 0 := by
  refine ⟨h.nd,h.reach,h.sub,fun j hj hji y hy => ?_,fun h y hy => by simp at hy⟩;by_cases e : j = i
  · subst e;exact h.part hj y (by rw [List.take_of_length_le hk]; exact hy)
  · exact h.done j hj (by omega) y hy
theorem Wl.old {I : List α} {nx : α → List α} {L : List α} {i k : Nat} (h : Wl I nx L i k) (hi : i < L.length) (hk : k < (nx L[i]).length) (hy : (nx L[i])[k] ∈ L) : Wl I nx L i (k + 1) :=
  ⟨h.nd,h.reach,h.sub,h.done,fun _ y hz => by
    rw [List.take_add_one,gge hk] at hz;rcases List.mem_append.1 hz with hz | hz
    · exact h.part hi y hz
    · simp at hz; rw [hz]; exact hy⟩
theorem Wl.new {I : List α} {nx : α → List α} {L : List α} {i k : Nat} (h : Wl I nx L i k) (hi : i < L.length) (hk : k < (nx L[i]).length) (hy : (nx L[i])[k] ∉ L) : Wl I nx (L ++ [(nx L[i])[k]]) i (k + 1) := by
  have hr : Reach I nx (nx L[i])[k] := .step (h.reach _ (List.getElem_mem hi)) (List.getElem_mem hk);have hg : ∀ j (hj : j < L.length) (hj' : j < (L ++ [(nx L[i])[k]]).length),(L ++ [(nx L[i])[k]])[j] = L[j] := fun j hj hj' => List.getElem_append_left hj
  refine ⟨?_,fun x hx => ?_,fun x hx => List.mem_append.2 (.inl (h.sub x hx)),fun j hj hji y hz => ?_,fun hi' y hz => ?_⟩
  · rw [List.nodup_append];exact ⟨h.nd,by simp,fun a ha b hb e => by simp at hb; subst hb; subst e; exact hy ha⟩
  · rcases List.mem_append.1 hx with hx | hx
    · exact h.reach x hx
    · simp at hx; rw [hx]; exact hr
  · rw [hg j (by omega)] at hz;exact List.mem_append.2 (.inl (h.done j (by omega) hji y hz))
  · rw [hg i hi,List.take_add_one,gge hk] at hz;rcases List.mem_append.1 hz with hz | hz
    · exact List.mem_append.2 (.inl (h.part hi y hz))
    · exact List.mem_append.2 (.inr hz)
theorem Wl.whole {I : List α} {nx : α → List α} {L : List α} {i k : Nat} (h : Wl I nx L i k) (hi : L.length ≤ i) : ∀ x,Reach I nx x ↔ x ∈ L := by
  intro x;refine ⟨fun hx => ?_,h.reach x⟩
  induction hx with
  | init hx => exact h.sub _ hx
  | step _ hy ih =>
    obtain ⟨j,hj,rfl⟩ := List.mem_iff_getElem.1 ih;exact h.done j hj (by omega) _ hy
theorem Reach.congr {I I' : List α} {nx nx' : α → List α} (hI : ∀ x ∈ I,x ∈ I') (hn : ∀ x,Reach I' nx' x → ∀ y ∈ nx x,y ∈ nx' x) {x : α} (h : Reach I nx x) : Reach I' nx' x := by
  induction h with
  | init h => exact .init (hI _ h)
  | step _ hy ih => exact .step ih (hn _ ih _ hy)
theorem vb [DecidableEq α] {L M : List α} (h : L.Nodup) (h' : M.Nodup) (he : ∀ x,x ∈ L ↔ x ∈ M) : L.Perm M := (List.perm_ext_iff_of_nodup h h').2 he
theorem yk [DecidableEq α] : ∀ {L M : List α},L.Nodup → (∀ x ∈ L,x ∈ M) → L.length ≤ M.length
  | [],_,_,_ => Nat.zero_le _
  | x :: L,M,h,hs => by
    rw [List.nodup_cons] at h;have hx : x ∈ M := hs x (by simp);have := yk (L := L) (M := M.erase x) h.2 (fun y hy => (List.mem_erase_of_ne (fun e => h.1 (by rw [← e]; exact hy))).2 (hs y (by simp [hy])));rw [List.length_erase_of_mem hx] at this;have := List.length_pos_of_mem hx;simp only [List.length_cons]; omega
end

end

section
set_option linter.unusedVariables false
section
variable {α : Type}
theorem XE {le : α → α → Prop} (hant : ∀ x y,le x y → le y x → x = y) : ∀ {L M : List α},L.Perm M → L.Pairwise le → M.Pairwise le → L = M
  | [],M,h,_,_ => (List.nil_perm.1 h).symm
  | x :: L,[],h,_,_ => by simp at h
  | x :: L,y :: M,h,h1,h2 => by
    rw [List.pairwise_cons] at h1 h2;have e : x = y := by
      rcases List.mem_cons.1 (h.mem_iff.1 (List.mem_cons_self)) with e | hx
      · exact e
      · rcases List.mem_cons.1 (h.mem_iff.2 (List.mem_cons_self)) with e | hy
        · exact e.symm
        · exact hant x y (h1.1 y hy) (h2.1 x hx)
    subst e;rw [XE hant (List.Perm.cons_inv h) h1.2 h2.2]
def putS [DecidableEq α] (lt : α → α → Bool) (L : List α) (x : α) : List α :=
  match L with
  | [] => [x]
  | y :: L => if lt y x then y :: putS lt L x else if y = x then y :: L else x :: y :: L
variable [DecidableEq α] {lt : α → α → Bool}
theorem Vq (L : List α) (x z : α) : z ∈ putS lt L x ↔ z ∈ L ∨ z = x := by
  induction L with
  | nil => simp [putS]
  | cons y L ih =>
    unfold putS;by_cases h : lt y x = true
    · rw [if_pos h,List.mem_cons,ih,List.mem_cons,or_assoc]
    · rw [if_neg h];by_cases e : y = x
      · rw [if_pos e,List.mem_cons]; subst e;exact ⟨.inl,fun h => h.elim id .inl⟩
      · rw [if_neg e,List.mem_cons]; exact ⟨fun h => h.elim .inr .inl,fun h => h.elim .inr .inl⟩
theorem zcp (tr : ∀ {x y z},lt x y = true → lt y z = true → lt x z = true) (tot : ∀ {x y},lt x y = false → x ≠ y → lt y x = true) {L : List α} (h : L.Pairwise fun a b => lt a b = true) (x : α) : (putS lt L x).Pairwise fun a b => lt a b = true := by
  induction L with
  | nil => simp [putS]
  | cons y L ih =>
    rw [List.pairwise_cons] at h;unfold putS;by_cases h1 : lt y x = true
    · rw [if_pos h1,List.pairwise_cons];refine ⟨fun z hz => ?_,ih h.2⟩;rcases (Vq L x z).1 hz with hz | rfl
      · exact h.1 z hz
      · exact h1
    · rw [if_neg h1];by_cases e : y = x
      · rw [if_pos e,List.pairwise_cons]; exact h
      · rw [if_neg e,List.pairwise_cons];have hx : lt x y = true := tot (by simpa using h1) e;refine ⟨fun z hz => ?_,List.pairwise_cons.2 h⟩;rcases List.mem_cons.1 hz with rfl | hz
        · exact hx
        · exact tr hx (h.1 z hz)
theorem zcb (irr : ∀ x,lt x x = false) (tr : ∀ {x y z},lt x y = true → lt y z = true → lt x z = true) {L : List α} (h : L.Pairwise fun a b => lt a b = true) {x : α} (hx : x ∈ L) : putS lt L x = L := by
  induction L with
  | nil => cases hx
  | cons y L ih =>
    rw [List.pairwise_cons] at h;unfold putS;by_cases e : y = x
    · subst e;rw [if_neg (by rw [irr]; decide),if_pos rfl]
    · have hx' : x ∈ L := (List.mem_cons.1 hx).resolve_left (fun h => e h.symm);rw [if_pos (h.1 x hx'),ih h.2 hx']
theorem Vi {L : List α} {x : α} (hx : x ∉ L) : (putS lt L x).length = L.length + 1 := by
  induction L with
  | nil => rfl
  | cons y L ih =>
    unfold putS;have h1 : y ≠ x := fun e => hx (by simp [e])
    by_cases h : lt y x = true
    · rw [if_pos h,List.length_cons,ih (fun h => hx (by simp [h]))]; rfl
    · rw [if_neg h,if_neg h1]; rfl
theorem xB {β : Type} {lt : β → β → Bool} (irr : ∀ x,lt x x = false) {L : List β} (h : L.Pairwise fun a b => lt a b = true) : L.Nodup :=
  h.imp fun {a b} hab e => by subst e; rw [irr] at hab; cases hab
theorem putS_at {L : List α} (x : α) : ∃ k,k ≤ L.length ∧ (∀ j (h : j < L.length),j < k → lt L[j] x = true) ∧ (∀ h : k < L.length,lt L[k] x = false) ∧ putS lt L x = if h : k < L.length then (if L[k] = x then L else L.take k ++ x :: L.drop k) else L.take k ++ x :: L.drop k := by
  induction L with
  | nil => exact ⟨0,Nat.le_refl _,fun j h _ => by simp at h,fun h => by simp at h,by simp [putS]⟩
  | cons y L ih =>
    obtain ⟨k,h1,h2,h3,h4⟩ := ih;by_cases h : lt y x = true
    · refine ⟨k + 1,by simp; exact h1,fun j hj hjk => ?_,fun hk => by simpa using h3 (by simpa using hk),?_⟩
      · cases j with
        | zero => exact h
        | succ j => simpa using h2 j (by simpa using hj) (by omega)
      · unfold putS;rw [if_pos h,h4];by_cases hk : k < L.length
        · rw [dif_pos hk,dif_pos (by simp; exact hk)];by_cases e : L[k] = x
          · rw [if_pos e,if_pos (by simpa using e)]
          · rw [if_neg e,if_neg (by simpa using e)]; simp
        · rw [dif_neg hk,dif_neg (by simp; omega)]; simp
    · refine ⟨0,Nat.zero_le _,fun j _ hj => by omega,fun _ => by simpa using h,?_⟩;unfold putS;rw [if_neg h,dif_pos (by simp)];by_cases e : y = x
      · rw [if_pos e,if_pos (by simpa using e)]
      · rw [if_neg e,if_neg (by simpa using e)]; simp
end

end

section
set_option linter.unusedVariables false
theorem UR {a b : ByteArray} : (a == b) = decide (a = b) := by
  by_cases h : a = b
  · rw [(zbk (a := a) (b := b)).2 h]; simp [h]
  · cases hc : (a == b) with
    | false => simp [h]
    | true => exact absurd (zbk.1 hc) h
theorem zck {β : Type} (m : List (ByteArray × β)) (k k' : ByteArray) (x : β) : mget (mput m k x) k' = if k' = k then some x else mget m k' := by
  induction m with
  | nil => simp only [mput,mget,UR,decide_eq_true_eq]
  | cons p m ih =>
    obtain ⟨q,v⟩ := p;simp only [mput];by_cases h : k = q
    · rw [if_pos (by rw [UR]; simpa using h)];subst h;simp only [mget,UR,decide_eq_true_eq];by_cases h2 : k' = k
      · rw [if_pos h2]; simp [h2]
      · simp [h2]
    · rw [if_neg (by rw [UR]; simpa using h)];simp only [mget,UR,decide_eq_true_eq,ih];by_cases h2 : k' = q
      · rw [if_pos h2,if_pos h2,if_neg (fun e => h (by rw [← e,h2]))]
      · rw [if_neg h2,if_neg h2]
theorem bstr_data (ns : List Int) : (bstr ns).data = (ns.map fun n => UInt8.ofNat n.toNat).toArray := by
  have : ∀ (ns : List Int) (r : ByteArray),(ns.foldl (fun r n => r.push (UInt8.ofNat n.toNat)) r).data = r.data ++ (ns.map fun n => UInt8.ofNat n.toNat).toArray := by
    intro ns
    induction ns with
    | nil => intro r; simp
    | cons n ns ih =>
      intro r;rw [List.foldl_cons,ih];show (r.data.push _) ++ _ = _;apply Array.ext';simp
  have h := this ns ByteArray.empty;unfold bstr;rw [h];apply Array.ext';show ([] : List UInt8) ++ _ = _;simp
theorem bstr_inj {a b : List Int} (ha : ∀ x ∈ a,0 ≤ x ∧ x < 256) (hb : ∀ x ∈ b,0 ≤ x ∧ x < 256) (h : bstr a = bstr b) : a = b := by
  have h := congrArg (fun s => s.data.toList) h;simp only [bstr_data] at h;have key : ∀ {a b : List Int},(∀ x ∈ a,0 ≤ x ∧ x < 256) → (∀ x ∈ b,0 ≤ x ∧ x < 256) → (a.map fun n => UInt8.ofNat n.toNat) = (b.map fun n => UInt8.ofNat n.toNat) → a = b := by
    intro a
    induction a with
    | nil => intro b _ _ h; cases b with
      | nil => rfl
      | cons _ _ => cases h
    | cons x a ih =>
      intro b ha hb h;cases b with
      | nil => cases h
      | cons y b =>
        rw [List.map_cons,List.map_cons,List.cons.injEq] at h;have h1 := congrArg UInt8.toNat h.1;have hx := ha x (by simp); have hy := hb y (by simp);have e1 : (UInt8.ofNat x.toNat).toNat = x.toNat := by
          rw [UInt8.toNat_ofNat']; exact Nat.mod_eq_of_lt (by omega)
        have e2 : (UInt8.ofNat y.toNat).toNat = y.toNat := by
          rw [UInt8.toNat_ofNat']; exact Nat.mod_eq_of_lt (by omega)
        rw [e1,e2] at h1;rw [ih (fun z hz => ha z (by simp [hz])) (fun z hz => hb z (by simp [hz])) h.2,show x = y by omega]
  exact key ha hb (by simpa using h)
def kb (x : Nat) : List Int := [((x / 256 % 256 : Nat) : Int),((x % 256 : Nat) : Int)]
def kkey (T : List Nat) : ByteArray := bstr (T.flatMap kb)
theorem zcx {S T : List Nat} (hS : ∀ x ∈ S,x < 65536) (hT : ∀ x ∈ T,x < 65536) : kkey S = kkey T ↔ S = T := by
  refine ⟨fun h => ?_,fun h => by rw [h]⟩;have bd : ∀ T : List Nat,∀ y ∈ T.flatMap kb,0 ≤ y ∧ y < 256 := by
    intro T y hy;obtain ⟨x,_,hx⟩ := List.mem_flatMap.1 hy;simp only [kb,List.mem_cons,List.not_mem_nil,or_false] at hx;rcases hx with rfl | rfl <;> omega
  have h := bstr_inj (bd S) (bd T) h
  induction S generalizing T with
  | nil => cases T with
    | nil => rfl
    | cons y T => simp [kb] at h
  | cons x S ih =>
    cases T with
    | nil => simp [kb] at h
    | cons y T =>
      simp only [List.flatMap_cons,kb,List.cons_append,List.nil_append,List.cons.injEq] at h;have hx := hS x (by simp); have hy := hT y (by simp);rw [ih (fun z hz => hS z (by simp [hz])) (fun z hz => hT z (by simp [hz])) (by unfold kkey; rw [h.2.2]) h.2.2,show x = y by omega]

end

def finB (N : Nat) (P Q : List Nat) : Bool := (List.range N).all fun x => ga Q (ga P x) == ga Q x

set_option linter.unusedVariables false
theorem u8_wrap (x : Nat) : IntKind.u8.wrap (x : Int) = ((x % 256 : Nat) : Int) := by
  have : IntKind.u8.wrap (x : Int) = (x : Int) % 256 := by
    unfold IntKind.wrap;rw [if_neg (by simp [IntKind.signed])]; rfl
  rw [this]; omega

theorem shr8 (x : Nat) : ishr .i64 (x : Int) 8 = ((x / 256 : Nat) : Int) := by
  unfold ishr;show Int.fdiv (x : Int) (2 ^ 8) = _;rw [Int.fdiv_eq_ediv_of_nonneg _ (by decide)];omega

theorem UJ {T : List Nat} (hl : T.length ≤ 1000000000) : ym (NL T) = some (kkey T) := by
  unfold ym;have e0 : mkc 0 (w64 (2 * ((NL T).length : Int))) = some () := by
    rw [show (2 * ((NL T).length : Int)) = ((2 * T.length : Nat) : Int) by simp,vl (by omega)];unfold mkc; rw [if_pos ⟨by omega,by omega,by omega⟩]
  rw [e0,obs];have key : ∀ (T S : List Nat) (i : Int),S.length + T.length ≤ 1000000000 → forR (S := (List Int)) (R := ByteArray) (fun _ x16 s13 =>
  (app s13 ([IntKind.u8.wrap (ishr .i64 x16 8),IntKind.u8.wrap x16])).bind fun y27 =>
  some (.nx y27)) i (NL T) (S.flatMap kb) = some (.br ((S ++ T).flatMap kb)) := by
    intro T
    induction T with
    | nil => intro S i _; rw [lan]; rfl
    | cons x T ih =>
      intro S i h;have hk : (S.flatMap kb).length = 2 * S.length := by
        clear h
        induction S with
        | nil => rfl
        | cons y S ih => simp [List.flatMap_cons,kb,ih]; omega
      simp only [List.length_cons] at h;show forR _ i ((x : Int) :: NL T) _ = _;unfold forR;simp only [shr8,u8_wrap];rw [yC (by rw [hk]; simp; omega),obs];have := ih (S ++ [x]) (i + 1) (by simp; omega);simp only [List.flatMap_append,List.flatMap_cons,List.flatMap_nil,lan,kb] at this ⊢;simp only [List.append_assoc] at this ⊢;rw [this]
  have := key T [] 0 (by simpa using hl);simp only [List.flatMap_nil,List.nil_append] at this;rw [show List.replicate (Int.toNat 0) (0 : Int) = [] from rfl,this];rfl


set_option linter.unusedVariables false
theorem zdo {L : List (List Nat)} {k : Nat} (h : k < L.length) : idx (NLL L) (k : Int) = some (NL L[k]) := by
  rw [yv]; unfold NLL; rw [List.getElem?_map,gge h]; rfl

theorem zcA {α : Type} {l : List α} {k : Nat} (h : k ≤ l.length) : slc l 0 (k : Int) = some (l.take k) := by
  unfold slc;rw [if_pos ⟨by omega,by omega,by omega⟩];simp

theorem zcE {α : Type} {l : List α} {k : Nat} (h : k ≤ l.length) : slc l (k : Int) (l.length : Int) = some (l.drop k) := by
  unfold slc;rw [if_pos ⟨by omega,by omega,by omega⟩,itn,show ((l.length : Int) - (k : Int)).toNat = l.length - k by omega];rw [List.take_of_length_le (by simp)]

def SeenOk (seen : List (ByteArray × Bool)) (L : List (List Nat)) : Prop := ∀ T : List Nat,(∀ x ∈ T,x < 65536) → (mget seen (kkey T)).getD false = decide (T ∈ L)

theorem SeenOk.add {seen : List (ByteArray × Bool)} {L : List (List Nat)} (h : SeenOk seen L) {T : List Nat} (hT : ∀ x ∈ T,x < 65536) : SeenOk (mput seen (kkey T) true) (L ++ [T]) := fun S hS => by
  rw [zck];by_cases e : S = T
  · subst e; simp
  · rw [if_neg (fun h' => e ((zcx hS hT).1 h')),h S hS];simp [e]

set_option linter.unusedVariables false
theorem alg_head {a : Int × List (Int × List Int)} (ha : OkP OkI (OkL (OkP OkI (OkL OkI))) a) {rest : Option Bool} (h : BA a → rest = some true) : ((yf (a.1,a.2) 1048576).bind fun r4 => bif (decide (r4 < 0)) then some true else rest) = some true := by
  obtain ⟨u,hu,hb⟩ := OkAlg.sz ha 1048576 (by omega) (by omega);have hu : yf (a.1,a.2) 1048576 = some u := hu;rw [hu,obs];by_cases hneg : u < 0
  · rw [show decide (u < 0) = true by simpa using hneg]; rfl
  rcases hb with hb | ⟨hb,_,_⟩
  · exact absurd hb hneg
  rw [show decide (u < 0) = false by simpa using hneg,ct0];exact h hb

theorem ga_appr {A B : List Nat} {i : Nat} (h : A.length ≤ i) : ga (A ++ B) i = ga B (i - A.length) := by
  unfold ga; rw [List.getD_eq_getElem?_getD,List.getElem?_append_right h,← List.getD_eq_getElem?_getD]

def hk1 (N : Nat) (S : List (List Nat)) (L : List Nat) (k i : Nat) : Nat := (List.range i).foldl (fun m i => if finB N (gl S i) (gl S k) then max m (ga L i + 1) else m) 0

def hts (N : Nat) (S : List (List Nat)) : Nat → List Nat
  | 0 => []
  | k + 1 => hts N S k ++ [hk1 N S (hts N S k) k k]

set_option linter.unusedVariables false

theorem vd {N : Nat} (hN : 0 < N) : ∀ (t i : Nat),dig N (t + 1) i = dig N t (i / N) ++ [i % N]
  | 0,i => by simp [dig]
  | t + 1,i => by
    rw [show dig N (t + 1 + 1) i = (i / N ^ (t + 1) % N) :: dig N (t + 1) i from rfl,vd hN t i];show _ = (i / N / N ^ t % N) :: dig N t (i / N) ++ [i % N];rw [Nat.div_div_eq_div_mul,show N * N ^ t = N ^ (t + 1) by rw [Nat.pow_succ,Nat.mul_comm]]; rfl

theorem Vf {N : Nat} : ∀ t,dig N t 0 = List.replicate t 0
  | 0 => rfl
  | t + 1 => by simp [dig,Vf t,List.replicate_succ]

theorem zaw {B : Nat} (hB : 1 ≤ B) (hBl : B ≤ 4294967296) (step : Int × List Int → Option (Ctl (Int × List Int) (List Int × Bool)))
    (hs : ∀ (A Z : List Nat) (x : Nat),A.length ≤ 100 → step ((A.length : Int),NL (A ++ x :: Z)) = if x + 1 < B then some (.rt (NL (A ++ (x + 1) :: Z),true)) else some (.nx ((A.length : Int) - 1,NL (A ++ 0 :: Z))))
    (hb : ∀ l,step (-1,l) = some (.br (-1,l))) : ∀ (K : Nat) (m : Nat) (Z : List Nat) (fu : Nat),K ≤ 100 → K < fu → m < B ^ K →
    iter step fu ((K : Int) - 1,NL (dig B K m ++ Z)) = if m + 1 < B ^ K then some (.rt (NL (dig B K (m + 1) ++ Z),true)) else some (.br (-1,NL (List.replicate K 0 ++ Z)))
  | 0,m,Z,fu,_,hf,hm => by
    obtain ⟨fu,rfl⟩ : ∃ k,fu = k + 1 := ⟨fu - 1,by omega⟩;rw [if_neg (by rw [Nat.pow_zero]; omega)];exact Xo (hb _) (by intro s; simp)
  | K + 1,m,Z,fu,hK,hf,hm => by
    obtain ⟨fu,rfl⟩ : ∃ k,fu = k + 1 := ⟨fu - 1,by omega⟩;have hst := hs (dig B K (m / B)) Z (m % B) (by rw [Yt]; omega);rw [Yt] at hst;rw [vd hB,List.append_assoc];have e0 : (((K + 1 : Nat) : Int) - 1,NL (dig B K (m / B) ++ ([m % B] ++ Z))) = ((K : Int),NL (dig B K (m / B) ++ m % B :: Z)) := by
      rw [show ((K + 1 : Nat) : Int) - 1 = (K : Int) by omega]; rfl
    rw [e0];by_cases hx : m % B + 1 < B
    · rw [if_pos hx] at hst;rw [Xo hst (by intro s; simp)];have e1 : (m + 1) / B = m / B ∧ (m + 1) % B = m % B + 1 := by
        have h := Nat.div_add_mod m B;have : m + 1 = (m % B + 1) + B * (m / B) := by omega
        rw [this,Nat.add_mul_div_left _ _ hB,Nat.div_eq_of_lt hx,Nat.zero_add,Nat.add_mul_mod_self_left,Nat.mod_eq_of_lt hx];exact ⟨rfl,rfl⟩
      have hlt : m + 1 < B ^ (K + 1) := by
        rcases Nat.lt_or_ge (m + 1) (B ^ (K + 1)) with h | h
        · exact h
        · exfalso;have : m + 1 = B ^ (K + 1) := by omega
          have e2 : (m + 1) % B = 0 := by rw [this,Nat.pow_succ]; exact Nat.mul_mod_left _ _
          omega
      rw [if_pos hlt,vd hB K (m + 1),e1.1,e1.2,List.append_assoc]; rfl
    · rw [if_neg hx] at hst;rw [zbJ hst];have hmb : m / B < B ^ K := by
        rw [Nat.pow_succ,Nat.mul_comm] at hm;exact Nat.div_lt_of_lt_mul hm
      have hmod : m % B = B - 1 := by have := Nat.mod_lt m hB; omega
      have e1 : (m + 1) / B = m / B + 1 ∧ (m + 1) % B = 0 := by
        have h := Nat.div_add_mod m B;have : m + 1 = 0 + B * (m / B + 1) := by rw [Nat.mul_add]; omega
        rw [this,Nat.add_mul_div_left _ _ hB,Nat.add_mul_mod_self_left]; simp
      have ih := zaw hB hBl step hs hb K (m / B) (0 :: Z) fu (by omega) (by omega) hmb;rw [ih];have hiff : m / B + 1 < B ^ K ↔ m + 1 < B ^ (K + 1) := by
        have h := Nat.div_add_mod m B;rw [Nat.pow_succ,Nat.mul_comm];constructor
        · intro h1;have h2 : B * (m / B + 1) < B * B ^ K := Nat.mul_lt_mul_of_pos_left h1 hB;rw [Nat.mul_add] at h2; omega
        · intro h1;rcases Nat.lt_or_ge (m / B + 1) (B ^ K) with h2 | h2
          · exact h2
          · exfalso;have h3 : B * B ^ K ≤ B * (m / B + 1) := Nat.mul_le_mul_left B h2;rw [Nat.mul_add] at h3; omega
      by_cases h2 : m / B + 1 < B ^ K
      · rw [if_pos h2,if_pos (hiff.1 h2),vd hB K (m + 1),e1.1,e1.2,List.append_assoc]; rfl
      · rw [if_neg h2,if_neg (fun h => h2 (hiff.2 h)),List.replicate_succ',List.append_assoc]; rfl

theorem zaz {B K m : Nat} (hB : 1 ≤ B) (hBl : B ≤ 4294967296) (hK : K ≤ 100) (hm : m < B ^ K) : ZC (NL (dig B K m)) (B : Int) = some (NL (dig B K (if m + 1 < B ^ K then m + 1 else 0)),decide (m + 1 < B ^ K)) := by
  unfold ZC;rw [Vs (by simp; omega),obs];have := zaw hB hBl (fun s30 =>
  (bif (decide (0 ≤ s30.1)) then (idx s30.2 s30.1).bind fun x39 =>
  (bif (decide (x39 < (w64 ((B : Int) - 1)))) then (idx s30.2 s30.1).bind fun x42 =>
  (idx s30.2 s30.1).bind fun x44 =>
  some (.rt (List.set s30.2 (Int.toNat s30.1) (w64 (x42 + 1)),true)) else (idx s30.2 s30.1).bind fun x47 =>
  some (.nx (w64 (s30.1 - 1),List.set s30.2 (Int.toNat s30.1) 0))) else some (.br (s30.1,s30.2)))) (fun A Z x hA => by
    have e1 : idx (NL (A ++ x :: Z)) (A.length : Int) = some (x : Int) := by
      rw [YN (by simp),ga_appr (Nat.le_refl _),Nat.sub_self]; rfl
    have es : ∀ y : Nat,(NL (A ++ x :: Z)).set A.length (y : Int) = NL (A ++ y :: Z) := fun y => by
      rw [NL_app,NL_app,List.set_append_right _ _ (by rw [Xn]; omega),Xn,Nat.sub_self]; rfl
    simp only [e1,obs,show decide ((0 : Int) ≤ (A.length : Int)) = true by simp,ct1,itn];rw [show (B : Int) - 1 = ((B - 1 : Nat) : Int) by omega,vl (by omega),Yi];by_cases hx : x + 1 < B
    · rw [if_pos hx,show decide (x < B - 1) = true by simp; omega,ct1,ZY (by omega),es]
    · rw [if_neg hx,show decide (x < B - 1) = false by simp; omega,ct0,Zl (by omega) (by omega),show (0 : Int) = ((0 : Nat) : Int) from rfl,es]) (fun l => rfl) K m [] FU hK (by unfold FU; omega) hm
  rw [lan] at this;rw [Xn,Yt,show w64 ((K : Int) - 1) = (K : Int) - 1 from Zl (by omega) (by omega),this];by_cases h : m + 1 < B ^ K
  · rw [if_pos h,if_pos h,lan];simp [h]
  · rw [if_neg h,if_neg h,Vf,lan];simp [h]

theorem l1Has_eq {A : List Nat} {n : Nat} (hA : A.length ≤ 4294967296) : yU (NL A) (n : Int) = some (decide (n ∈ A)) := by
  unfold yU;rw [wg (R := Bool) (p := fun j => if ga A j = n then some true else none) (n := A.length) (by simp) (by omega) (fun j hj => by
    rw [YN hj,obs,wD];by_cases e : ga A j = n
    · rw [if_pos e,show (ga A j == n) = true by simpa using e,ct1]
    · rw [if_neg e,show (ga A j == n) = false by simpa using e,ct0])]
  by_cases h : n ∈ A
  · obtain ⟨j,hj,e⟩ := List.mem_iff_getElem.1 h;have : (List.range A.length).findSome? (fun j => if ga A j = n then some true else none) = some true := by
      cases hc : (List.range A.length).findSome? (fun j => if ga A j = n then some true else none) with
      | none =>
        rw [List.findSome?_eq_none_iff] at hc;have := hc j (by simpa using hj);rw [YT hj,if_pos e] at this; cases this
      | some b =>
        obtain ⟨i,_,hi⟩ := List.exists_of_findSome?_eq_some hc;split at hi
        · exact hi.symm
        · cases hi
    rw [this]; simp [h]
  · have : (List.range A.length).findSome? (fun j => if ga A j = n then some true else none) = none := by
      rw [List.findSome?_eq_none_iff];intro j hj;simp only [List.mem_range] at hj;exact if_neg (fun e => h (by rw [← e]; exact yp hj))
    rw [this]; simp [h]

theorem uv {A : List Nat} {L : List (List Nat)} (hA : A.length ≤ 1000) (h : ∀ x ∈ A,x < L.length) : forC (S := (List (List Int))) (R := (List (List Int))) (fun k36 s34 =>
  (idx (NL A) k36).bind fun x46 =>
  (idx (NLL L) x46).bind fun x48 =>
  (app s34 ([x48])).bind fun y55 =>
  some (.nx y55)) 0 ((NL A).length : Int) [] = some (.br (NLL (A.map (gl L)))) := by
  rw [XZ (R := List (List Int)) (v := fun j => NL (gl L (ga A j))) (n := A.length) (by simp) (by omega) (fun j s hj hs => by
    rw [YN hj,obs,xA (h _ (yp hj)),obs])]
  congr 2;unfold NLL;rw [List.map_map]
  conv => rhs; rw [← Uu A,List.map_map]
  rfl

theorem zcf {A : List Nat} {L : List (List Nat)} (hA : A.length ≤ 1000) (h : ∀ x ∈ A,x < L.length) : ZK (NLL L) (NL A) = some (NLL (A.map (gl L))) := by
  unfold ZK; rw [uv hA h]; rfl

theorem zce {A : List Nat} {L : List (List Nat)} (hA : A.length ≤ 1000) (h : ∀ x ∈ A,x < L.length) : yN (NLL L) (NL A) = some (NLL (A.map (gl L))) := by
  unfold yN; rw [uv hA h]; rfl

def apT (N : Nat) (T : List Nat) (ts : List (List Nat)) (k : Nat) : List Nat := (List.range k).map fun p => ga T (ix N 0 (ts.map fun t => ga t p))

theorem uW (N : Nat) (T : List Nat) (ts : List (List Nat)) (k : Nat) : (apT N T ts k).length = k := by simp [apT]

theorem Vb {N K j k : Nat} {a : Int × List (Int × List Int)} {T : List Nat} {ts : List (List Nat)} (ha : AlgW a N) (hj : j < a.2.length) (ho : OpN N a.2[j] K T) (hts : ts.length = K) (hk : ∀ t ∈ ts,t.length = k) (hx : ∀ t ∈ ts,∀ x ∈ t,x < N) (hkl : k ≤ 1000000) :
    ZA (a.1,a.2) (j : Int) (NLL ts) (k : Int) = some (NL (apT N T ts k)) := by
  have h8 := ha.n8;have h1 := ha.n1;have hK := ho.k3;unfold ZA;rw [XZ (R := List Int) (v := fun p => ((ga T (ix N 0 (ts.map fun t => ga t p)) : Nat) : Int)) (n := k) rfl (by omega) (fun p s hp hs => by
    have hdig : ∀ m,m ≤ K → ∀ x ∈ (ts.take m).map (fun t => ga t p),x < N := fun m _ x hx' => by
      obtain ⟨t,ht,rfl⟩ := List.mem_map.1 hx';have ht := List.mem_of_mem_take ht;exact hx t ht _ (yp (by rw [hk t ht]; exact hp))
    have hb : ∀ m,m ≤ K → ix N 0 ((ts.take m).map fun t => ga t p) < N ^ m := fun m hm => Xe (hdig m hm) (by simp; omega)
    have pw : ∀ m,m ≤ K → N ^ m ≤ 512 := fun m hm => vk h8 (by omega)
    rw [Xd (R := List Int) (F := fun m => ((ix N 0 ((ts.take m).map fun t => ga t p) : Nat) : Int)) (n := K) (s := 0) (by simp [hts]) (by omega) rfl (fun m hm => by
      have ht : gl ts m ∈ ts := xm (by omega);have e : (ts.take (m + 1)).map (fun t => ga t p) = (ts.take m).map (fun t => ga t p) ++ [ga (gl ts m) p] := by
        rw [List.take_add_one,gge (by omega),List.map_append,Yf (by omega)]; rfl
      have b1 := hb m (by omega);have b2 := pw m (by omega);have b3 : ix N 0 ((ts.take m).map fun t => ga t p) * N ≤ 512 * 8 := Nat.mul_le_mul (by omega) h8;have b4 := hx _ ht _ (yp (k := p) (by rw [hk _ ht]; exact hp));rw [xA (by omega),obs,YN (by rw [hk _ ht]; exact hp),obs,show (a.1,a.2).1 = (N : Int) from ha.eN,yS (by omega),XC (by omega),e,wW]; simp [ix])]
    have etk : ts.take K = ts := List.take_of_length_le (by omega);have hbK := hb K (Nat.le_refl _);rw [etk] at hbK;have ej : idx a.2 (j : Int) = some a.2[j] := by rw [yv,gge hj]
    have eT : idx a.2[j].2 ((ix N 0 (ts.map fun t => ga t p) : Nat) : Int) = some ((ga T (ix N 0 (ts.map fun t => ga t p)) : Nat) : Int) := by
      rw [ho.eq]; exact YN (by rw [ho.len]; exact hbK)
    simp only [obs,zY,etk,ej,eT])]
  show some ((List.range k).map _) = _;unfold apT NL;rw [List.map_map]; rfl

set_option linter.unusedVariables false

theorem zcc {L : List (List Nat)} {t : List Nat} (hs : Sorted L) (hk : ∀ u ∈ L,u.length = t.length) (hL : L.length ≤ 1000000000) (ht : t.length ≤ 1000000000) :
    yb (NLL L) (NL t) = some (NLL (putS Zs L t)) := by
  unfold yb;rw [wV hs hk (by omega) (by omega),obs];cases hc : L.contains t with
  | true => rw [ct1,zcb yQ Yu hs (by simpa using hc)]
  | false =>
    have hn : t ∉ L := by simpa using hc
    obtain ⟨k,h1,h2,h3,h4⟩ := putS_at (lt := Zs) (L := L) t;have e : VA L t = k := by
      refine Ut h1 (fun i hi => by rw [Yf (by omega)]; exact h2 i (by omega) hi) (fun i hi hil => ?_);rw [Yf hil];by_cases e : i = k
      · subst e; exact h3 hil
      · cases hx : Zs L[i] t with
        | false => rfl
        | true =>
          have hg := hs.get (show k < i by omega) hil;rw [Yf (by omega),Yf hil] at hg;have := Yu hg hx;rw [h3 (by omega)] at this; cases this
    rw [e,ct0,zcA (by rw [yw]; exact h1),obs,zcE (by rw [yw]; exact h1),obs];rw [yC (by simp; omega),obs,yC (by simp; omega),obs,yC (by simp; omega),obs,h4];by_cases hk : k < L.length
    · rw [dif_pos hk,if_neg (fun e => hn (by rw [← e]; exact List.getElem_mem hk))]; simp [NLL]
    · rw [dif_neg hk]; simp [NLL]

inductive Gen (N : Nat) (ops : List (Int × List Int)) (k : Nat) (B : List (List Nat)) : List Nat → Prop
  | base {t : List Nat} : t ∈ B → Gen N ops k B t
  | app {f : Int × List Int} {K : Nat} {T : List Nat} {ts : List (List Nat)} : f ∈ ops → OpN N f K T → ts.length = K → (∀ t ∈ ts,Gen N ops k B t) → Gen N ops k B (apT N T ts k)

def Clsd (N : Nat) (ops : List (Int × List Int)) (k : Nat) (S : List Nat → Prop) : Prop := ∀ f ∈ ops,∀ K T,OpN N f K T → ∀ ts : List (List Nat),ts.length = K → (∀ t ∈ ts,S t) → S (apT N T ts k)

theorem Gen.least {N : Nat} {ops : List (Int × List Int)} {k : Nat} {B : List (List Nat)} {S : List Nat → Prop} (hB : ∀ t ∈ B,S t) (hS : Clsd N ops k S) {t : List Nat} (h : Gen N ops k B t) : S t := by
  induction h with
  | base h => exact hB _ h
  | app hf ho hl _ ih => exact hS _ hf _ _ ho _ hl ih

theorem Gen.mono {N : Nat} {ops : List (Int × List Int)} {k : Nat} {B B' : List (List Nat)} (hB : ∀ t ∈ B,Gen N ops k B' t) {t : List Nat} (h : Gen N ops k B t) : Gen N ops k B' t :=
  h.least hB (fun f hf K T ho ts hl ht => .app hf ho hl ht)

def TupN (N k : Nat) (t : List Nat) : Prop := t.length = k ∧ ∀ x ∈ t,x < N

theorem Vu {N k K : Nat} {f : Int × List Int} {T : List Nat} {ts : List (List Nat)} (ho : OpN N f K T) (hl : ts.length = K) (ht : ∀ t ∈ ts,TupN N k t) : TupN N k (apT N T ts k) := by
  refine ⟨uW _ _ _ _,fun x hx => ?_⟩;obtain ⟨p,hp,rfl⟩ := List.mem_map.1 hx;simp only [List.mem_range] at hp;refine ho.lt _ (yp ?_);rw [ho.len];refine Xe (fun y hy => ?_) (by simpa using hl);obtain ⟨t,h,rfl⟩ := List.mem_map.1 hy;exact (ht t h).2 _ (yp (by rw [(ht t h).1]; exact hp))

theorem Gen.tup {N : Nat} {ops : List (Int × List Int)} {k : Nat} {B : List (List Nat)} (hB : ∀ t ∈ B,TupN N k t) {t : List Nat} (h : Gen N ops k B t) : TupN N k t :=
  h.least hB (fun f hf K T ho ts hl ht => Vu ho hl ht)

theorem gl_app {A Z : List (List Nat)} {x : Nat} (h : x < A.length) : gl (A ++ Z) x = gl A x := by
  simp [gl,List.getElem?_append_left h]

theorem UC {A Z : List (List Nat)} {ds : List Nat} (h : ∀ x ∈ ds,x < A.length) : ds.map (gl (A ++ Z)) = ds.map (gl A) := by
  apply List.map_congr_left; intro x hx; exact gl_app (h x hx)

theorem zbw {N : Nat} (hN : 1 ≤ N) : ∀ (K : Nat) (ds : List Nat),ds.length = K → (∀ x ∈ ds,x < N) → dig N K (ix N 0 ds) = ds
  | 0,ds,h,_ => by rw [List.length_eq_zero_iff.1 h]; rfl
  | K + 1,ds,h,hx => by
    rcases List.eq_nil_or_concat ds with rfl | ⟨A,x,rfl⟩
    · simp at h
    · have hl : A.length = K := by simpa using h
      rw [List.concat_eq_append] at hx ⊢;have hxl : x < N := hx x (by simp);have e : ix N 0 (A ++ [x]) = ix N 0 A * N + x := by rw [wW]; rfl
      rw [vd hN,e,Xk hxl,Xi hxl,zbw hN K A hl (fun y hy => hx y (by simp [hy]))]

def DoneF (N k i : Nat) (f : Int × List Int) (A : List (List Nat)) : Prop := ∀ K T,OpN N f K T → ∀ ds : List Nat,ds.length = K → (∀ x ∈ ds,x < i) → apT N T (ds.map (gl A)) k ∈ A

theorem DoneF.app {N k i : Nat} {f : Int × List Int} {A : List (List Nat)} (h : DoneF N k i f A) (hi : i ≤ A.length) (Z : List (List Nat)) : DoneF N k i f (A ++ Z) := fun K T ho ds hl hx => by
  rw [UC (fun x h => by have := hx x h; omega)];exact List.mem_append.2 (.inl (h K T ho ds hl hx))

structure GInv (N : Nat) (ops : List (Int × List Int)) (k : Nat) (B A' A : List (List Nat)) : Prop where
  srt : Sorted A'
  len : A'.length = A.length
  mem : ∀ t,t ∈ A' ↔ t ∈ A
  gen : ∀ t ∈ A,Gen N ops k B t
  base : ∀ t ∈ B,t ∈ A

theorem GInv.put' {N : Nat} {ops : List (Int × List Int)} {k : Nat} {B0 B A' A : List (List Nat)} (h : GInv N ops k B0 A' A) (hB : ∀ t ∈ B,TupN N k t) {t : List Nat} (ht : t ∉ A) (hg : Gen N ops k B t) (h0 : ∀ u ∈ B0,Gen N ops k B u) (hb : ∀ u ∈ B,u ∈ A ++ [t]) : GInv N ops k B (putS Zs A' t) (A ++ [t]) := by
  refine ⟨?_,?_,fun u => ?_,fun u hu => ?_,hb⟩
  · -- sorted: only equal lengths are compared
    have key : ∀ {L : List (List Nat)},L.Pairwise (fun a b => Zs a b = true) → (∀ u ∈ L,u.length = t.length) → (putS Zs L t).Pairwise (fun a b => Zs a b = true) := by
      intro L hL hl
      induction L with
      | nil => simp [putS]
      | cons y L ih =>
        rw [List.pairwise_cons] at hL;unfold putS;by_cases h1 : Zs y t = true
        · rw [if_pos h1,List.pairwise_cons];refine ⟨fun z hz => ?_,ih hL.2 (fun u hu => hl u (by simp [hu]))⟩;rcases (Vq L t z).1 hz with hz | rfl
          · exact hL.1 z hz
          · exact h1
        · rw [if_neg h1];by_cases e : y = t
          · rw [if_pos e,List.pairwise_cons]; exact hL
          · rw [if_neg e,List.pairwise_cons];have hx : Zs t y = true := uf (hl y (by simp)) (by simpa using h1) e;refine ⟨fun z hz => ?_,List.pairwise_cons.2 hL⟩;rcases List.mem_cons.1 hz with rfl | hz
            · exact hx
            · exact Yu hx (hL.1 z hz)
    refine key h.srt (fun u hu => ?_);rw [(((h.gen u ((h.mem u).1 hu)).mono h0).tup hB).1,(hg.tup hB).1]
  · rw [Vi (fun hx => ht ((h.mem t).1 hx)),h.len]; simp
  · rw [Vq,h.mem]; simp
  · rcases List.mem_append.1 hu with hu | hu
    · exact (h.gen u hu).mono h0
    · simp at hu; rw [hu]; exact hg

theorem GInv.put {N : Nat} {ops : List (Int × List Int)} {k : Nat} {B A' A : List (List Nat)} (h : GInv N ops k B A' A) (hB : ∀ t ∈ B,TupN N k t) {t : List Nat} (ht : t ∉ A) (hg : Gen N ops k B t) : GInv N ops k B (putS Zs A' t) (A ++ [t]) :=
  h.put' hB ht hg (fun u hu => .base hu) (fun u hu => List.mem_append.2 (.inl (h.base u hu)))

theorem ds_of (A : List (List Nat)) : ∀ (ts : List (List Nat)),(∀ t ∈ ts,t ∈ A) → ∃ ds : List Nat,ds.length = ts.length ∧ (∀ x ∈ ds,x < A.length) ∧ ds.map (gl A) = ts
  | [],_ => ⟨[],rfl,fun x hx => (by cases hx),rfl⟩
  | t :: ts,h => by
    obtain ⟨ds,h1,h2,h3⟩ := ds_of A ts (fun u hu => h u (by simp [hu]));obtain ⟨i,hi,e⟩ := List.mem_iff_getElem.1 (h t (by simp));refine ⟨i :: ds,by simp [h1],fun x hx => ?_,by simp [h3,Yf hi,e]⟩;rcases List.mem_cons.1 hx with rfl | hx
    · exact hi
    · exact h2 x hx

theorem DoneF.clsd {N k : Nat} {ops : List (Int × List Int)} {A : List (List Nat)} (h : ∀ f ∈ ops,DoneF N k A.length f A) : Clsd N ops k (· ∈ A) := fun f hf K T ho ts hl ht => by
  obtain ⟨ds,h1,h2,h3⟩ := ds_of A ts ht;have := h f hf K T ho ds (by omega) h2
  rwa [h3] at this

def nxt (N K k i : Nat) (T : List Nat) (A' A : List (List Nat)) (m : Nat) : List (List Nat) × List (List Nat) :=
  if i ∈ dig (i + 1) K m then (if A'.contains (apT N T ((dig (i + 1) K m).map (gl A)) k) then (A',A) else (putS Zs A' (apT N T ((dig (i + 1) K m).map (gl A)) k),A ++ [apT N T ((dig (i + 1) K m).map (gl A)) k])) else (A',A)

abbrev St4 := List (List Int) × List (List Int) × List Int × Bool

theorem wy {R : Type} {N K k i most : Nat} {ops : List (Int × List Int)} {f : Int × List Int} {T : List Nat} {B : List (List Nat)} (hf : f ∈ ops) (ho : OpN N f K T) (hB : ∀ t ∈ B,TupN N k t) (hm3 : most ≤ 300)
    {step : St4 → Option (Ctl St4 R)}
    (h1 : ∀ A' A X y,(y = false ∨ most < A.length) → step (NLL A',NLL A,X,y) = some (.br (NLL A',NLL A,X,y)))
    (h2 : ∀ A' A m,GInv N ops k B A' A → i < A.length → A.length ≤ most → m < (i + 1) ^ K → step (NLL A',NLL A,NL (dig (i + 1) K m),true) = some (.nx (NLL (nxt N K k i T A' A m).1,NLL (nxt N K k i T A' A m).2,NL (dig (i + 1) K (if m + 1 < (i + 1) ^ K then m + 1 else 0)),decide (m + 1 < (i + 1) ^ K)))) :
    ∀ (n m fu : Nat) (A' A : List (List Nat)),m + n = (i + 1) ^ K → n < fu → GInv N ops k B A' A → i < A.length → A.length ≤ 2000 → DoneF N k i f A → (∀ m',m' < m → apT N T ((dig (i + 1) K m').map (gl A)) k ∈ A) →
    ∃ A1' Z X y,iter step fu (NLL A',NLL A,NL (dig (i + 1) K (if m < (i + 1) ^ K then m else 0)),decide (m < (i + 1) ^ K)) = some (.br (NLL A1',NLL (A ++ Z),X,y)) ∧ GInv N ops k B A1' (A ++ Z) ∧ (A ++ Z).length ≤ 2000 ∧ (most < (A ++ Z).length ∨ DoneF N k (i + 1) f (A ++ Z))
  | 0,m,fu,A',A,e,hfu,hI,hi,hl,hd,hp => by
    obtain ⟨fu,rfl⟩ : ∃ k,fu = k + 1 := ⟨fu - 1,by omega⟩;refine ⟨A',[],NL (dig (i + 1) K (if m < (i + 1) ^ K then m else 0)),decide (m < (i + 1) ^ K),?_,by rw [lan]; exact hI,by rw [lan]; exact hl,.inr ?_⟩
    · rw [lan,Xo (h1 A' A _ _ (.inl (by simp; omega))) (by intro s; simp)]
    · rw [lan];intro K' T' ho' ds hds hx;obtain ⟨rfl,rfl⟩ := ho.uniq ho';have := hp (ix (i + 1) 0 ds) (by rw [show m = (i + 1) ^ K' by omega]; exact Xe hx hds)
      rwa [zbw (by omega) K' ds hds hx] at this
  | n + 1,m,fu,A',A,e,hfu,hI,hi,hl,hd,hp => by
    obtain ⟨fu,rfl⟩ : ∃ k,fu = k + 1 := ⟨fu - 1,by omega⟩;have hml : m < (i + 1) ^ K := by omega
    by_cases hmost : most < A.length
    · refine ⟨A',[],NL (dig (i + 1) K (if m < (i + 1) ^ K then m else 0)),decide (m < (i + 1) ^ K),?_,by rw [lan]; exact hI,by rw [lan]; exact hl,.inl (by rw [lan]; exact hmost)⟩;rw [lan,Xo (h1 A' A _ _ (.inr hmost)) (by intro s; simp)]
    · have hst := h2 A' A m hI hi (by omega) hml;rw [if_pos hml,show decide (m < (i + 1) ^ K) = true by simpa using hml,zbJ hst];have hdl : ∀ m',∀ x ∈ dig (i + 1) K m',x < A.length := fun m' x hx => by have := wO (show 0 < i + 1 by omega) K m' x hx; omega
      by_cases hin : i ∈ dig (i + 1) K m
      · by_cases hc : A'.contains (apT N T ((dig (i + 1) K m).map (gl A)) k) = true
        · have en : nxt N K k i T A' A m = (A',A) := by unfold nxt; rw [if_pos hin,if_pos hc]
          rw [en];refine wy hf ho hB hm3 h1 h2 n (m + 1) fu A' A (by omega) (by omega) hI hi hl hd (fun m' hm' => ?_);by_cases e : m' = m
          · subst e; exact (hI.mem _).1 (by simpa using hc)
          · exact hp m' (by omega)
        · have en : nxt N K k i T A' A m = (putS Zs A' (apT N T ((dig (i + 1) K m).map (gl A)) k),A ++ [apT N T ((dig (i + 1) K m).map (gl A)) k]) := by unfold nxt; rw [if_pos hin,if_neg hc]
          rw [en];have hg : Gen N ops k B (apT N T ((dig (i + 1) K m).map (gl A)) k) := .app hf ho (by simp) (fun t ht => by
            obtain ⟨x,hx,rfl⟩ := List.mem_map.1 ht;exact hI.gen _ (xm (hdl m x hx)))
          have hnew : apT N T ((dig (i + 1) K m).map (gl A)) k ∉ A := fun h => hc (by simpa using (hI.mem _).2 h)
          obtain ⟨A1',Z,X,y,r1,r2,r3,r4⟩ := wy hf ho hB hm3 h1 h2 n (m + 1) fu _ _ (by omega) (by omega) (hI.put hB hnew hg) (by simp; omega) (by simp; omega) (hd.app (by omega) _) (fun m' hm' => by
            rw [UC (hdl m')];by_cases e : m' = m
            · subst e; simp
            · exact List.mem_append.2 (.inl (hp m' (by omega))))
          refine ⟨A1',apT N T ((dig (i + 1) K m).map (gl A)) k :: Z,X,y,?_,?_,?_,?_⟩
          · rw [List.append_cons A _ Z]; exact r1
          · rw [List.append_cons A _ Z]; exact r2
          · rw [List.append_cons A _ Z]; exact r3
          · rw [List.append_cons A _ Z]; exact r4
      · have en : nxt N K k i T A' A m = (A',A) := by unfold nxt; rw [if_neg hin]
        rw [en];refine wy hf ho hB hm3 h1 h2 n (m + 1) fu A' A (by omega) (by omega) hI hi hl hd (fun m' hm' => ?_);by_cases e : m' = m
        · subst e;refine hd K T ho _ (by simp) (fun x hx => ?_);have h3 := wO (show 0 < i + 1 by omega) K m' x hx;have h4 : x ≠ i := fun e => hin (e ▸ hx)
          omega
        · exact hp m' (by omega)

set_option linter.unusedVariables false

def mxA (ops : List (Int × List Int)) : Int := ops.foldl (fun s f => if f.1 < s then s else f.1) 0

def xi (ops : List (Int × List Int)) : Nat := if mxA ops = 3 then 40 else if mxA ops = 2 then 200 else 300

theorem Ui (ops : List (Int × List Int)) : xi ops ≤ 300 ∧ 40 ≤ xi ops := by
  unfold xi;split
  · omega
  · split <;> omega

theorem l1Most_if (a b : Int) : xN a b = some (if b < a then a else b) := by
  unfold xN;by_cases h : b < a <;> simp [h]

theorem l8Most_eq {a : Int × List (Int × List Int)} (hl : a.2.length ≤ 8) : xM (a.1,a.2) = some ((xi a.2 : Nat) : Int) := by
  unfold xM;rw [Xd (R := Int) (s := 0) (F := fun m => (a.2.take m).foldl (fun s f => if f.1 < s then s else f.1) (0 : Int)) (n := a.2.length) rfl (by omega) rfl (fun j hj => by
    rw [yv,gge hj,obs,l1Most_if,obs,List.take_add_one,gge hj,List.foldl_append]; rfl)]
  rw [obs,zY,List.take_length];unfold xi mxA;generalize a.2.foldl (fun s f => if f.1 < s then s else f.1) (0 : Int) = x;by_cases h3 : x = 3
  · subst h3; rfl
  · rw [show (x == 3) = false by simpa using h3,if_neg h3,ct0];by_cases h2 : x = 2
    · subst h2; rfl
    · rw [show (x == 2) = false by simpa using h2,if_neg h2,ct0]; rfl

abbrev St2 := List (List Int) × List (List Int)

theorem close_ops {R : Type} {N k i most : Nat} {ops : List (Int × List Int)} {B : List (List Nat)} (hops : ops.length ≤ 8)
    {step : Int → St2 → Option (Ctl St2 R)}
    (hs : ∀ j (hj : j < ops.length) A' A,GInv N ops k B A' A → i < A.length → A.length ≤ 2000 → DoneF N k i ops[j] A → ∃ A1' Z,step (j : Int) (NLL A',NLL A) = some (.nx (NLL A1',NLL (A ++ Z))) ∧ GInv N ops k B A1' (A ++ Z) ∧ (A ++ Z).length ≤ 2000 ∧ (most < (A ++ Z).length ∨ DoneF N k (i + 1) ops[j] (A ++ Z)))
    (hs' : ∀ j,j < ops.length → ∀ A' A,most < A.length → step (j : Int) (NLL A',NLL A) = some (.nx (NLL A',NLL A)))
    {A' A : List (List Nat)} (hI : GInv N ops k B A' A) (hi : i < A.length) (hl : A.length ≤ 2000) (hd : ∀ f ∈ ops,DoneF N k i f A) :
    ∃ A1' A1,forC step 0 (ops.length : Int) (NLL A',NLL A) = some (.br (NLL A1',NLL A1)) ∧ GInv N ops k B A1' A1 ∧ i < A1.length ∧ A1.length ≤ 2000 ∧ (most < A1.length ∨ ∀ f ∈ ops,DoneF N k (i + 1) f A1) := by
  have := xX (step := step) (n := ops.length) (hi := (ops.length : Int)) (s := (NLL A',NLL A))
    (fun j s => ∃ A' A,s = (NLL A',NLL A) ∧ GInv N ops k B A' A ∧ i < A.length ∧ A.length ≤ 2000 ∧ (most < A.length ∨ ((∀ f ∈ ops,DoneF N k i f A) ∧ ∀ j' (h : j' < ops.length),j' < j → DoneF N k (i + 1) ops[j'] A)))
    (fun _ => False) (fun _ => False) rfl (by omega) ⟨A',A,rfl,hI,hi,hl,.inr ⟨hd,fun j' _ h => by omega⟩⟩ (by
      rintro j s hj ⟨A',A,rfl,hI,hi,hl,h⟩;left;by_cases hm : most < A.length
      · exact ⟨_,hs' j hj A' A hm,A',A,rfl,hI,hi,hl,.inl hm⟩
      · obtain ⟨hd,hp⟩ := h.resolve_left hm;obtain ⟨A1',Z,e,h1,h2,h3⟩ := hs j hj A' A hI hi hl (hd _ (List.getElem_mem hj));refine ⟨_,e,A1',A ++ Z,rfl,h1,by simp; omega,h2,?_⟩;rcases h3 with h3 | h3
        · exact .inl h3
        · refine .inr ⟨fun f hf => (hd f hf).app (by omega) Z,fun j' h' hj' => ?_⟩;by_cases e : j' = j
          · subst e; exact h3
          · exact (hp j' h' (by omega)).app (by omega) Z)
  rcases this with ⟨s',e,h | h⟩ | ⟨r,_,h⟩
  · obtain ⟨A1',A1,rfl,h1,h2,h3,h4⟩ := h;refine ⟨A1',A1,e,h1,h2,h3,h4.imp id (fun h f hf => ?_)⟩;obtain ⟨j,hj,rfl⟩ := List.mem_iff_getElem.1 hf;exact h.2 j hj hj
  · exact h.elim
  · exact h.elim

abbrev St3 := List (List Int) × List (List Int) × Int

theorem zcw {R : Type} {N k most : Nat} {ops : List (Int × List Int)} {B : List (List Nat)} (hm3 : most ≤ 300)
    {step : St3 → Option (Ctl St3 R)}
    (hs : ∀ i A' A,GInv N ops k B A' A → i < A.length → A.length ≤ most → (∀ f ∈ ops,DoneF N k i f A) → ∃ A1' A1,step (NLL A',NLL A,(i : Int)) = some (.nx (NLL A1',NLL A1,((i + 1 : Nat) : Int))) ∧ GInv N ops k B A1' A1 ∧ i < A1.length ∧ A1.length ≤ 2000 ∧ (most < A1.length ∨ ∀ f ∈ ops,DoneF N k (i + 1) f A1))
    (hb : ∀ i A' A,i ≤ A.length → A.length ≤ 2000 → A.length = A'.length → (A.length ≤ i ∨ most < A.length) → step (NLL A',NLL A,((i : Nat) : Int)) = some (.br (NLL A',NLL A,(i : Int))))
    {A' A : List (List Nat)} (hI : GInv N ops k B A' A) (hl : A.length ≤ 2000) (hd : ∀ f ∈ ops,DoneF N k 0 f A) :
    ∃ A1' A1 i,iter step FU (NLL A',NLL A,0) = some (.br (NLL A1',NLL A1,i)) ∧ GInv N ops k B A1' A1 ∧ A1.length ≤ 2000 ∧ (A1.length ≤ most → Clsd N ops k (· ∈ A1)) := by
  obtain ⟨c,hc,⟨A1',A1,i,rfl,h⟩,_⟩ := yy (step := step)
    (fun s => ∃ A' A,∃ i : Nat,s = (NLL A',NLL A,(i : Int)) ∧ GInv N ops k B A' A ∧ i ≤ A.length ∧ A.length ≤ 2000 ∧ (most < A.length ∨ ∀ f ∈ ops,DoneF N k i f A))
    (fun s => 3000 - s.2.2.toNat)
    (fun c => ∃ A1' A1 i,c = .br (NLL A1',NLL A1,i) ∧ GInv N ops k B A1' A1 ∧ A1.length ≤ 2000 ∧ (A1.length ≤ most → Clsd N ops k (· ∈ A1)))
    FU (NLL A',NLL A,0) ⟨A',A,0,rfl,hI,Nat.zero_le _,hl,.inr hd⟩ (by simp [FU]) (by
      rintro s ⟨A',A,i,rfl,hI,hi,hl,h⟩;by_cases hm : most < A.length
      · right;exact ⟨_,hb i A' A hi hl hI.len.symm (.inr hm),by intro s; simp,A',A,_,rfl,hI,hl,fun h => by omega⟩
      · have hd := h.resolve_left hm;by_cases hil : i < A.length
        · left;obtain ⟨A1',A1,e,h1,h2,h3,h4⟩ := hs i A' A hI hil (by omega) hd;exact ⟨_,e,⟨A1',A1,i + 1,rfl,h1,by omega,h3,h4⟩,by simp; omega⟩
        · right;have e : i = A.length := by omega
          subst e;exact ⟨_,hb _ A' A hi hl hI.len.symm (.inl (Nat.le_refl _)),by intro s; simp,A',A,_,rfl,hI,hl,fun _ => DoneF.clsd hd⟩)
  exact ⟨A1',A1,i,hc,h⟩


theorem l8_inner {R : Type} {N K k i j : Nat} {a : Int × List (Int × List Int)} {T : List Nat} {B : List (List Nat)} (ha : AlgW a N) (hj : j < a.2.length) (ho : OpN N a.2[j] K T) (hB : ∀ t ∈ B,TupN N k t) (hk : k ≤ 1000000)
    {A' A : List (List Nat)} (hI : GInv N a.2 k B A' A) (hi : i < A.length) (hl : A.length ≤ 2000) (hd : DoneF N k i a.2[j] A) (hi3 : i ≤ 300) :
    ∃ A1' Z X y,iter (S := St4) (R := R) (fun s3591 =>
  (bif (s3591.2.2.2 && (decide ((s3591.2.1.length : Int) ≤ ((xi a.2 : Nat) : Int)))) then (yU s3591.2.2.1 (i : Int)).bind fun r3617 =>
  (bif r3617 then (ZK s3591.2.1 s3591.2.2.1).bind fun r3695 =>
  (ZA (a.1,a.2) (j : Int) r3695 (k : Int)).bind fun r3698 =>
  (Zi s3591.1 r3698).bind fun r3701 =>
  (bif (!r3701.2) then (yb s3591.1 r3698).bind fun r3705 =>
  (app s3591.2.1 ([r3698])).bind fun y3710 =>
  some (r3705,y3710,s3591.2.2.1) else some (s3591.1,s3591.2.1,s3591.2.2.1)) else some (s3591.1,s3591.2.1,s3591.2.2.1)).bind fun s3674 =>
  (ZC s3674.2.2 (w64 ((i : Int) + 1))).bind fun r3714 =>
  some (.nx (s3674.1,s3674.2.1,r3714.1,r3714.2)) else some (.br (s3591.1,s3591.2.1,s3591.2.2.1,s3591.2.2.2)))) FU (NLL A',NLL A,List.replicate K 0,(decide (0 < (K : Int)))) = some (.br (NLL A1',NLL (A ++ Z),X,y)) ∧ GInv N a.2 k B A1' (A ++ Z) ∧ (A ++ Z).length ≤ 2000 ∧ (xi a.2 < (A ++ Z).length ∨ DoneF N k (i + 1) a.2[j] (A ++ Z)) := by
  have hm := Ui a.2;have hf := List.getElem_mem hj;have hK := ho.k3;have hpw : (i + 1) ^ K ≤ 301 ^ 3 := Nat.le_trans (Nat.pow_le_pow_left (by omega) K) (Nat.pow_le_pow_right (by omega) hK);have core := fun n m fu => wy (R := R) (most := xi a.2) hf ho hB (by omega) (i := i) (step := fun s3591 =>
  (bif (s3591.2.2.2 && (decide ((s3591.2.1.length : Int) ≤ ((xi a.2 : Nat) : Int)))) then (yU s3591.2.2.1 (i : Int)).bind fun r3617 =>
  (bif r3617 then (ZK s3591.2.1 s3591.2.2.1).bind fun r3695 =>
  (ZA (a.1,a.2) (j : Int) r3695 (k : Int)).bind fun r3698 =>
  (Zi s3591.1 r3698).bind fun r3701 =>
  (bif (!r3701.2) then (yb s3591.1 r3698).bind fun r3705 =>
  (app s3591.2.1 ([r3698])).bind fun y3710 =>
  some (r3705,y3710,s3591.2.2.1) else some (s3591.1,s3591.2.1,s3591.2.2.1)) else some (s3591.1,s3591.2.1,s3591.2.2.1)).bind fun s3674 =>
  (ZC s3674.2.2 (w64 ((i : Int) + 1))).bind fun r3714 =>
  some (.nx (s3674.1,s3674.2.1,r3714.1,r3714.2)) else some (.br (s3591.1,s3591.2.1,s3591.2.2.1,s3591.2.2.2))))
    (fun A' A X y h => by
      rcases h with rfl | h
      · simp only [Bool.false_and,ct0]
      · simp only [yw,wb,show decide (A.length ≤ xi a.2) = false by simpa using h,Bool.and_false,ct0])
    (fun A' A m hI hi hle hml => by
      have hdl : ∀ x ∈ dig (i + 1) K m,x < A.length := fun x hx => by have := wO (show 0 < i + 1 by omega) K m x hx; omega
      have hts : ∀ t ∈ (dig (i + 1) K m).map (gl A),TupN N k t := fun t ht => by
        obtain ⟨x,hx,rfl⟩ := List.mem_map.1 ht;exact (hI.gen _ (xm (hdl x hx))).tup hB
      have hl' := hI.len;simp only [yw,wb,show decide (A.length ≤ xi a.2) = true by simpa using hle,Bool.and_self,ct1];rw [l1Has_eq (by simp; omega),obs,ZY (by omega)];have nx : ZC (NL (dig (i + 1) K m)) ((i + 1 : Nat) : Int) = some (NL (dig (i + 1) K (if m + 1 < (i + 1) ^ K then m + 1 else 0)),decide (m + 1 < (i + 1) ^ K)) := zaz (by omega) (by omega) (by omega) hml;by_cases hin : i ∈ dig (i + 1) K m
      · rw [show decide (i ∈ dig (i + 1) K m) = true by simpa using hin,ct1,zcf (by simp; omega) hdl,obs,
          Vb ha hj ho (by simp) (fun t ht => (hts t ht).1) (fun t ht => (hts t ht).2) hk,obs]
        have hlen : ∀ u ∈ A',u.length = (apT N T ((dig (i + 1) K m).map (gl A)) k).length := fun u hu => by
          rw [uW,((hI.gen u ((hI.mem u).1 hu)).tup hB).1]
        rw [wV hI.srt hlen (by omega) (by rw [uW]; omega),obs];unfold nxt;rw [if_pos hin];cases hc : A'.contains (apT N T ((dig (i + 1) K m).map (gl A)) k) with
        | true =>
          simp only [bnt,ct0,obs,nx,if_true]
        | false =>
          simp only [bnf,ct1];rw [zcc hI.srt hlen (by omega) (by rw [uW]; omega),obs,yC (by simp; omega)];simp only [obs,nx,Bool.false_eq_true,if_false];rw [show NLL A ++ [NL (apT N T ((dig (i + 1) K m).map (gl A)) k)] = NLL (A ++ [apT N T ((dig (i + 1) K m).map (gl A)) k]) by simp [NLL]]
      · rw [show decide (i ∈ dig (i + 1) K m) = false by simpa using hin,ct0];simp only [obs,nx];unfold nxt;rw [if_neg hin]) n m fu A' A
  by_cases hK0 : K = 0
  · subst hK0;have := core 0 1 FU (by simp) (by simp [FU]) hI hi hl hd (fun m' hm' => by
      have e : m' = 0 := by omega
      subst e;exact hd 0 T ho [] rfl (fun x hx => by cases hx))
    rw [show (if 1 < (i + 1) ^ 0 then 1 else 0) = 0 by simp,show decide (1 < (i + 1) ^ 0) = false by simp] at this;exact this
  · have h0 : 0 < (i + 1) ^ K := Nat.pow_pos (by omega);have := core ((i + 1) ^ K) 0 FU (by omega) (by unfold FU; omega) hI hi hl hd (fun m' hm' => by omega);rw [if_pos h0,Vf,show decide (0 < (i + 1) ^ K) = true by simpa using h0,show NL (List.replicate K 0) = List.replicate K (0 : Int) by simp [NL]] at this;rw [show decide (0 < (K : Int)) = true by simp; omega];exact this

set_option linter.unusedVariables false

theorem op_at {N : Nat} {a : Int × List (Int × List Int)} (ha : AlgW a N) {j : Nat} (hj : j < a.2.length) : ∃ (K : Nat) (T : List Nat),idx a.2 (j : Int) = some ((K : Int),NL T) ∧ a.2[j] = ((K : Int),NL T) ∧ OpN N a.2[j] K T := by
  obtain ⟨K,T,ho⟩ := ha.ops _ (List.getElem_mem hj);refine ⟨K,T,?_,ho.eq,ho⟩;rw [yv,gge hj,ho.eq]

theorem zaU {R : Type} {N k : Nat} {a : Int × List (Int × List Int)} {B : List (List Nat)} (ha : AlgW a N) (hk : k ≤ 1000000) (hBl : B.length ≤ 1000) :
    ∃ C,forC (S := (List (List Int))) (R := R) (fun k66 s64 =>
  (idx a.2 k66).bind fun x74 =>
  (bif (x74.1 == 0) then (ZA (a.1,a.2) k66 ([]) (k : Int)).bind fun r81 =>
  (app s64 ([r81])).bind fun y86 =>
  some (.nx y86) else some (.nx s64))) 0 (a.2.length : Int) (NLL B) = some (.br (NLL (B ++ C))) ∧ C.length ≤ 8 ∧ (∀ t ∈ C,Gen N a.2 k B t) ∧ ∀ f ∈ a.2,∀ T,OpN N f 0 T → apT N T [] k ∈ C := by
  have hl4 := ha.l8;have := xX (R := R) (step := fun k66 s64 =>
  (idx a.2 k66).bind fun x74 =>
  (bif (x74.1 == 0) then (ZA (a.1,a.2) k66 ([]) (k : Int)).bind fun r81 =>
  (app s64 ([r81])).bind fun y86 =>
  some (.nx y86) else some (.nx s64))) (n := a.2.length) (hi := (a.2.length : Int)) (s := NLL B)
    (fun j s => ∃ C,s = NLL (B ++ C) ∧ C.length ≤ j ∧ (∀ t ∈ C,Gen N a.2 k B t) ∧ ∀ j' (h : j' < a.2.length),j' < j → ∀ T,OpN N a.2[j'] 0 T → apT N T [] k ∈ C)
    (fun _ => False) (fun _ => False) rfl (by omega) ⟨[],by simp,by simp,List.forall_mem_nil _,fun j' _ h => by omega⟩ (by
      rintro j s hj ⟨C,rfl,hC,h1,h2⟩;left;obtain ⟨K,T,e1,e2,ho⟩ := op_at ha hj;rw [e1,obs];by_cases hK : K = 0
      · subst hK;have ea := Vb (ts := []) ha hj ho rfl (fun t ht => by cases ht) (fun t ht => by cases ht) hk;rw [show NLL [] = [] from rfl] at ea;rw [show ((((0 : Nat) : Int),NL T).1 == 0) = true from rfl,ct1,ea,obs,yC (by simp; omega)];refine ⟨_,rfl,C ++ [apT N T [] k],by simp [NLL],by simp; omega,fun t ht => ?_,fun j' h' hj' T' ho' => ?_⟩
        · rcases List.mem_append.1 ht with ht | ht
          · exact h1 t ht
          · simp at ht; subst ht;exact .app (List.getElem_mem hj) ho rfl (fun t ht => by cases ht)
        · by_cases e : j' = j
          · subst e;obtain ⟨_,rfl⟩ := ho.uniq ho';simp
          · exact List.mem_append.2 (.inl (h2 j' h' (by omega) T' ho'))
      · rw [show (((K : Int),NL T).1 == 0) = false by simp; omega,ct0];refine ⟨_,rfl,C,rfl,by omega,h1,fun j' h' hj' T' ho' => ?_⟩;by_cases e : j' = j
        · subst e;exact absurd (ho.uniq ho').1.symm hK
        · exact h2 j' h' (by omega) T' ho')
  rcases this with ⟨s',e,h | h⟩ | ⟨r,_,h⟩
  · obtain ⟨C,rfl,h1,h2,h3⟩ := h;refine ⟨C,e,by omega,h2,fun f hf T ho => ?_⟩;obtain ⟨j,hj,rfl⟩ := List.mem_iff_getElem.1 hf;exact h3 j hj hj T ho
  · exact h.elim
  · exact h.elim

theorem zbY {R : Type} {N k : Nat} {ops : List (Int × List Int)} {B D : List (List Nat)} (hB : ∀ t ∈ B,TupN N k t) (hD : ∀ t ∈ D,Gen N ops k B t) (hDl : D.length ≤ 1100) (hk : k ≤ 1000000) (hsub : ∀ t ∈ B,t ∈ D) :
    ∃ A' A i,iter (S := (List (List Int)) × (List (List Int)) × Int) (R := R) (fun s249 =>
  (bif (decide (s249.2.2 < ((NLL D).length : Int))) then (idx (NLL D) s249.2.2).bind fun x266 =>
  (Zi s249.1 x266).bind fun r271 =>
  (bif (!r271.2) then (idx (NLL D) s249.2.2).bind fun x273 =>
  (yb s249.1 x273).bind fun r278 =>
  (idx (NLL D) s249.2.2).bind fun x280 =>
  (app s249.2.1 ([x280])).bind fun y287 =>
  some (.nx (r278,y287,w64 (s249.2.2 + 1))) else some (.nx (s249.1,s249.2.1,w64 (s249.2.2 + 1)))) else some (.br (s249.1,s249.2.1,s249.2.2)))) FU ([],[],0) = some (.br (NLL A',NLL A,i)) ∧ GInv N ops k B A' A ∧ A.length ≤ 1100 ∧ ∀ t ∈ D,t ∈ A := by
  obtain ⟨c,hc,⟨A',A,i,rfl,h1,h2,h3⟩,_⟩ := yy (S := (List (List Int)) × (List (List Int)) × Int) (R := R) (step := fun s249 =>
  (bif (decide (s249.2.2 < ((NLL D).length : Int))) then (idx (NLL D) s249.2.2).bind fun x266 =>
  (Zi s249.1 x266).bind fun r271 =>
  (bif (!r271.2) then (idx (NLL D) s249.2.2).bind fun x273 =>
  (yb s249.1 x273).bind fun r278 =>
  (idx (NLL D) s249.2.2).bind fun x280 =>
  (app s249.2.1 ([x280])).bind fun y287 =>
  some (.nx (r278,y287,w64 (s249.2.2 + 1))) else some (.nx (s249.1,s249.2.1,w64 (s249.2.2 + 1)))) else some (.br (s249.1,s249.2.1,s249.2.2))))
    (fun s => ∃ A' A,∃ i : Nat,s = (NLL A',NLL A,(i : Int)) ∧ GInv N ops k (D.take i) A' A ∧ A.length ≤ i ∧ i ≤ D.length)
    (fun s => 3000 - s.2.2.toNat)
    (fun c => ∃ A' A i,c = .br (NLL A',NLL A,i) ∧ GInv N ops k B A' A ∧ A.length ≤ 1100 ∧ ∀ t ∈ D,t ∈ A)
    FU ([],[],0) ⟨[],[],0,rfl,⟨List.Pairwise.nil,rfl,fun t => Iff.rfl,List.forall_mem_nil _,List.forall_mem_nil _⟩,by simp,by simp⟩ (by simp [FU]) (by
      rintro s ⟨A',A,i,rfl,hI,hA,hi⟩;simp only [yw,Yi];have hle := hI.len;have hB' : ∀ n,∀ t ∈ D.take n,TupN N k t := fun n t ht => (hD t (List.mem_of_mem_take ht)).tup hB
      by_cases hil : i < D.length
      · left;have ht : TupN N k D[i] := (hD _ (List.getElem_mem hil)).tup hB;have hlen : ∀ u ∈ A',u.length = (D[i]).length := fun u hu => by
          rw [((hI.gen u ((hI.mem u).1 hu)).tup (hB' i)).1,ht.1]
        have hk' := ht.1;have etk : D.take (i + 1) = D.take i ++ [D[i]] := by rw [List.take_add_one,gge hil]; rfl
        rw [show decide (i < D.length) = true by simpa using hil,ct1,zdo hil,obs,wV hI.srt hlen (by omega) (by omega),obs,ZY (by omega)];cases hc : A'.contains D[i] with
        | true =>
          simp only [bnt,ct0];have hin : D[i] ∈ A := (hI.mem _).1 (by simpa using hc);refine ⟨_,rfl,⟨A',A,i + 1,rfl,⟨hI.srt,hI.len,hI.mem,fun t h => (hI.gen t h).mono (fun u hu => .base ?_),fun t h => ?_⟩,by omega,by omega⟩,by simp; omega⟩
          · rw [etk]; exact List.mem_append.2 (.inl hu)
          · rw [etk] at h;rcases List.mem_append.1 h with h | h
            · exact hI.base t h
            · simp at h; rw [h]; exact hin
        | false =>
          simp only [bnf,ct1,obs];have hin : D[i] ∉ A := fun h => by have := (hI.mem _).2 h; simp [this] at hc
          rw [zcc hI.srt hlen (by omega) (by omega),obs,yC (by simp; omega)];refine ⟨_,rfl,⟨putS Zs A' D[i],A ++ [D[i]],i + 1,by simp [NLL],hI.put' (hB' (i + 1)) hin (.base ?_) (fun u hu => .base ?_) (fun t h => ?_),by simp; omega,by omega⟩,by simp; omega⟩
          · rw [etk]; exact List.mem_append.2 (.inr (by simp))
          · rw [etk]; exact List.mem_append.2 (.inl hu)
          · rw [etk] at h;rcases List.mem_append.1 h with h | h
            · exact List.mem_append.2 (.inl (hI.base t h))
            · exact List.mem_append.2 (.inr h)
      · right;have e : D.take i = D := List.take_of_length_le (by omega);rw [e] at hI;rw [show decide (i < D.length) = false by simpa using hil,ct0];exact ⟨_,rfl,by intro s; simp,A',A,_,rfl,⟨hI.srt,hI.len,hI.mem,fun t h => (hI.gen t h).mono hD,fun t h => hI.base t (hsub t h)⟩,by omega,hI.base⟩)
  exact ⟨A',A,i,hc,h1,h2,h3⟩


theorem zcR {N k : Nat} {a : Int × List (Int × List Int)} {B : List (List Nat)} (ha : AlgW a N) (hB : ∀ t ∈ B,TupN N k t) (hBl : B.length ≤ 1000) (hk : k ≤ 1000000) :
    ∃ A' : List (List Nat),ZP (a.1,a.2) (k : Int) (NLL B) = some (NLL A',decide (A'.length ≤ xi a.2)) ∧ Sorted A' ∧ (∀ t ∈ A',Gen N a.2 k B t) ∧ (∀ t ∈ B,t ∈ A') ∧ A'.length ≤ 2000 ∧ (A'.length ≤ xi a.2 → Clsd N a.2 k (· ∈ A')) := by
  have hl4 := ha.l8;have hm := Ui a.2;unfold ZP;rw [l8Most_eq hl4,obs];rw [XZ (R := List (List Int) × Bool) (v := fun j => NL (gl B j)) (n := B.length) (by simp) (by omega) (fun j s hj hs => by
    rw [xA hj,obs,Vs (by rw [Xn,(hB _ (xm hj)).1]; omega),obs])]
  have e0 : (List.range B.length).map (fun j => NL (gl B j)) = NLL B := by
    conv => rhs; rw [← zdj B]
    unfold NLL; rw [List.map_map]; rfl
  rw [e0,obs,zY];obtain ⟨C,e1,hC4,hCg,hC0⟩ := zaU (R := List (List Int) × Bool) (B := B) ha hk hBl;rw [e1,obs,zY];obtain ⟨A0',A0,i0,e2,hI0,hA0,hD0⟩ := zbY (R := List (List Int) × Bool) (ops := a.2) (D := B ++ C) hB (fun t ht => by
    rcases List.mem_append.1 ht with h | h
    · exact .base h
    · exact hCg t h) (by simp; omega) hk (fun t h => List.mem_append.2 (.inl h))
  rw [e2,obs,zY];obtain ⟨A1',A1,i1,e3,hI1,hA1,hcl⟩ := zcw (R := List (List Int) × Bool) (N := N) (k := k) (most := xi a.2) (ops := a.2) (B := B) (by omega) (step := fun s2566 =>
  (bif ((decide (s2566.2.2 < (s2566.2.1.length : Int))) && (decide ((s2566.2.1.length : Int) ≤ ((xi a.2 : Nat) : Int)))) then (forC (S := (List (List Int)) × (List (List Int))) (R := (List (List Int)) × Bool) (fun k3334 s3332 =>
  (idx a.2 k3334).bind fun x3359 =>
  (idx a.2 k3334).bind fun x3362 =>
  (mks x3359.1 (0 : Int)).bind fun y3366 =>
  (iter (S := (List (List Int)) × (List (List Int)) × (List Int) × Bool) (R := (List (List Int)) × Bool) (fun s3591 =>
  (bif (s3591.2.2.2 && (decide ((s3591.2.1.length : Int) ≤ ((xi a.2 : Nat) : Int)))) then (yU s3591.2.2.1 s2566.2.2).bind fun r3617 =>
  (bif r3617 then (ZK s3591.2.1 s3591.2.2.1).bind fun r3695 =>
  (ZA (a.1,a.2) k3334 r3695 (k : Int)).bind fun r3698 =>
  (Zi s3591.1 r3698).bind fun r3701 =>
  (bif (!r3701.2) then (yb s3591.1 r3698).bind fun r3705 =>
  (app s3591.2.1 ([r3698])).bind fun y3710 =>
  some (r3705,y3710,s3591.2.2.1) else some (s3591.1,s3591.2.1,s3591.2.2.1)) else some (s3591.1,s3591.2.1,s3591.2.2.1)).bind fun s3674 =>
  (ZC s3674.2.2 (w64 (s2566.2.2 + 1))).bind fun r3714 =>
  some (.nx (s3674.1,s3674.2.1,r3714.1,r3714.2)) else some (.br (s3591.1,s3591.2.1,s3591.2.2.1,s3591.2.2.2)))) FU (s3332.1,s3332.2,y3366,(decide (0 < x3362.1)))).bind fun o3595 => after o3595 (fun r_ => some (.rt r_)) (fun s3591 =>
  some (.nx (s3591.1,s3591.2.1)))) 0 (a.2.length : Int) (s2566.1,s2566.2.1)).bind fun o3336 => after o3336 (fun r_ => some (.rt r_)) (fun s3332 =>
  some (.nx (s3332.1,s3332.2,w64 (s2566.2.2 + 1)))) else some (.br (s2566.1,s2566.2.1,s2566.2.2))))
    (fun i A' A hI hi hle hd => by
      obtain ⟨A1',A1,e,h1,h2,h3,h4⟩ := close_ops (R := List (List Int) × Bool) (N := N) (k := k) (most := xi a.2) (ops := a.2) (B := B) hl4 (i := i) (step := fun k3334 s3332 =>
  (idx a.2 k3334).bind fun x3359 =>
  (idx a.2 k3334).bind fun x3362 =>
  (mks x3359.1 (0 : Int)).bind fun y3366 =>
  (iter (S := (List (List Int)) × (List (List Int)) × (List Int) × Bool) (R := (List (List Int)) × Bool) (fun s3591 =>
  (bif (s3591.2.2.2 && (decide ((s3591.2.1.length : Int) ≤ ((xi a.2 : Nat) : Int)))) then (yU s3591.2.2.1 (i : Int)).bind fun r3617 =>
  (bif r3617 then (ZK s3591.2.1 s3591.2.2.1).bind fun r3695 =>
  (ZA (a.1,a.2) k3334 r3695 (k : Int)).bind fun r3698 =>
  (Zi s3591.1 r3698).bind fun r3701 =>
  (bif (!r3701.2) then (yb s3591.1 r3698).bind fun r3705 =>
  (app s3591.2.1 ([r3698])).bind fun y3710 =>
  some (r3705,y3710,s3591.2.2.1) else some (s3591.1,s3591.2.1,s3591.2.2.1)) else some (s3591.1,s3591.2.1,s3591.2.2.1)).bind fun s3674 =>
  (ZC s3674.2.2 (w64 ((i : Int) + 1))).bind fun r3714 =>
  some (.nx (s3674.1,s3674.2.1,r3714.1,r3714.2)) else some (.br (s3591.1,s3591.2.1,s3591.2.2.1,s3591.2.2.2)))) FU (s3332.1,s3332.2,y3366,(decide (0 < x3362.1)))).bind fun o3595 => after o3595 (fun r_ => some (.rt r_)) (fun s3591 =>
  some (.nx (s3591.1,s3591.2.1))))
        (fun j hj A' A hI hi hl hd => by
          obtain ⟨K,T,q1,q2,ho⟩ := op_at ha hj;have hK := ho.k3;obtain ⟨A1',Z,X,y,r1,r2,r3,r4⟩ := l8_inner (R := List (List Int) × Bool) ha hj ho hB hk hI hi hl hd (by omega);refine ⟨A1',Z,?_,r2,r3,r4⟩;simp only [q1,obs];rw [we rfl (by omega),obs];rw [r1,obs,zY])
        (fun j hj A' A hlt => by
          obtain ⟨K,T,q1,q2,ho⟩ := op_at ha hj;have hK := ho.k3;simp only [q1,obs];rw [we rfl (by omega),obs];rw [show FU = FU - 1 + 1 from rfl,Xo (o := some (.br (NLL A',NLL A,List.replicate K 0,decide (0 < (K : Int))))) (by
            simp only [yw,wb,show decide (A.length ≤ xi a.2) = false by simpa using hlt,Bool.and_false,ct0]) (by intro s; simp),obs,zY])
        hI hi (by omega) hd
      refine ⟨A1',A1,?_,h1,h2,h3,h4⟩;have c : (decide ((i : Int) < ((NLL A).length : Int)) && decide (((NLL A).length : Int) ≤ ((xi a.2 : Nat) : Int))) = true := by
        rw [yw,Yi,wb,show decide (i < A.length) = true by simpa using hi,show decide (A.length ≤ xi a.2) = true by simpa using hle,Bool.and_self]
      show (bif (decide ((i : Int) < ((NLL A).length : Int)) && decide (((NLL A).length : Int) ≤ ((xi a.2 : Nat) : Int))) then _ else _) = _;rw [c,ct1,e,obs,zY,ZY (by omega)])
    (fun i A' A hi hl hle h => by
      simp only [yw,Yi,wb];rcases h with h | h
      · rw [show decide (i < A.length) = false by simpa using h,Bool.false_and,ct0]
      · rw [show decide (A.length ≤ xi a.2) = false by simpa using h,Bool.and_false,ct0])
    hI0 (by omega) (fun f hf K T ho ds hl hx => by
      cases ds with
      | nil =>
        subst hl;exact hD0 _ (List.mem_append.2 (.inr (hC0 f hf T ho)))
      | cons d ds => have := hx d (by simp); omega)
  rw [e3,obs,zY,yw,wb];refine ⟨A1',rfl,hI1.srt,fun t h => hI1.gen t ((hI1.mem t).1 h),fun t h => (hI1.mem t).2 (hI1.base t h),by rw [hI1.len]; exact hA1,fun h f hf K T ho ts hl ht => ?_⟩;exact (hI1.mem _).2 (hcl (by rw [← hI1.len]; exact h) f hf K T ho ts hl (fun t h => (hI1.mem t).1 (ht t h)))

set_option linter.unusedVariables false
def bt (H : List Bool) (c : Nat) : Bool := H.getD c false

def mk (H : List Bool) : List Nat := (List.range H.length).filter (bt H)

theorem zbs {H : List Bool} {c : Nat} (h : c < H.length) : idx H (c : Int) = some (bt H c) := by
  rw [yv,gge h]; simp [bt,gge h]

theorem vU {H : List Bool} {c : Nat} : c ∈ mk H ↔ c < H.length ∧ bt H c = true := by simp [mk]

theorem bt_lt {H : List Bool} {c : Nat} (h : bt H c = true) : c < H.length := by
  rcases Nat.lt_or_ge c H.length with h' | h'
  · exact h'
  · simp [bt,List.getElem?_eq_none h'] at h

theorem ui {H : List Bool} {c d : Nat} (hc : c < H.length) : bt (H.set c true) d = (decide (d = c) || bt H d) := by
  unfold bt;by_cases e : d = c
  · subst e; simp [hc]
  · simp [e,Ne.symm e]

theorem zaR {H : List Bool} (h : H.length ≤ 100000) : ZO H = some (NL (mk H)) := by
  unfold ZO;rw [Xd (R := List Int) (s := []) (F := fun j => NL ((List.range j).filter (bt H))) (n := H.length) rfl (by omega) rfl (fun j hj => by
    rw [zbs hj,obs,List.range_succ,List.filter_append];cases hb : bt H j with
    | true =>
      have hlen : ((List.range j).filter (bt H)).length ≤ j := by have := List.length_filter_le (bt H) (List.range j); simpa using this
      rw [ct1,yC (by simp; omega),obs];simp [List.filter,hb,NL]
    | false => simp [List.filter,hb])]
  rfl

theorem mk_len {H : List Bool} : (mk H).length ≤ H.length := by have := List.length_filter_le (bt H) (List.range H.length); simpa [mk] using this

def pt (N c : Nat) : List Nat := [c / N,c % N]

def cd (N : Nat) (t : List Nat) : Nat := ga t 0 * N + ga t 1

theorem Wh {N c : Nat} (h : c < N * N) : TupN N 2 (pt N c) := by
  have hN : 0 < N := by rcases Nat.eq_zero_or_pos N with e | e; · subst e; simp at h
                        · exact e
  refine ⟨rfl,fun x hx => ?_⟩;simp only [pt,List.mem_cons,List.not_mem_nil,or_false] at hx;rcases hx with rfl | rfl
  · exact Nat.div_lt_of_lt_mul h
  · exact Nat.mod_lt _ hN

theorem tup2 {N : Nat} {t : List Nat} (h : TupN N 2 t) : ∃ x y,t = [x,y] ∧ x < N ∧ y < N := by
  obtain ⟨hl,hx⟩ := h
  match t,hl with
  | [x,y],_ => exact ⟨x,y,rfl,hx x (by simp),hx y (by simp)⟩

theorem uy {N : Nat} {t : List Nat} (h : TupN N 2 t) : pt N (cd N t) = t := by
  obtain ⟨x,y,rfl,hx,hy⟩ := tup2 h;show [(x * N + y) / N,(x * N + y) % N] = [x,y];rw [Xk hy,Xi hy]

theorem zcH {N : Nat} {t : List Nat} (h : TupN N 2 t) : cd N t < N * N := by
  obtain ⟨x,y,rfl,hx,hy⟩ := tup2 h;exact lin2 hx hy

theorem UA (N c : Nat) : cd N (pt N c) = c := by
  show c / N * N + c % N = c;have := Nat.div_add_mod c N; rw [Nat.mul_comm]; exact this

theorem zcU {N c d : Nat} (h : pt N c = pt N d) : c = d := by rw [← UA N c,h,UA]

theorem power0 {K : Nat} (hK : K ≤ 3) : ZB ((0 : Nat) : Int) (K : Int) = some ((0 ^ K : Nat) : Int) := by
  unfold ZB;rw [Ud (R := Int) (F := fun j => (((K - j : Nat) : Int),((0 ^ j : Nat) : Int))) (s := ((K : Int),(1 : Int))) (t := ((0 : Int),((0 ^ K : Nat) : Int))) K (by omega) (by simp) (fun j hj => by
    rw [show decide ((0 : Int) < ((K - j : Nat) : Int)) = true by simp; omega,ct1];rw [show ((K - j : Nat) : Int) - 1 = ((K - (j + 1) : Nat) : Int) by omega,vl (by omega),yS (by simp),Nat.pow_succ]) (by
    rw [Nat.sub_self]; rfl)]
  rfl

theorem powerA {L K : Nat} (hK : K ≤ 3) (hL : L ≤ 1000) : ZB (L : Int) (K : Int) = some ((L ^ K : Nat) : Int) := by
  rcases Nat.eq_zero_or_pos L with e | e
  · subst e; exact power0 hK
  · refine UE rfl rfl e ?_ (by omega);have h1 : L ^ K ≤ 1000 ^ K := Nat.pow_le_pow_left hL K;have h2 : (1000 : Nat) ^ K ≤ 1000 ^ 3 := Nat.pow_le_pow_right (by omega) hK;omega

theorem args00 {i n : Int} : Zp i 0 n = some [] := by
  unfold Zp;have e : mks (0 : Int) (0 : Int) = some [] := we (k := 0) rfl (by omega);rw [e,obs,show FU = FU - 1 + 1 from rfl,Xo (o := some (.br (i,-1,[]))) rfl (by intro s; simp)];rfl

theorem argsA {i K L : Nat} (hK : K ≤ 3) (hi : i < L ^ K) (hL : L ≤ 1000) : Zp (i : Int) (K : Int) (L : Int) = some (NL (dig L K i)) := by
  rcases Nat.eq_zero_or_pos L with e | e
  · subst e;have : K = 0 := by
      rcases Nat.eq_zero_or_pos K with e | e
      · exact e
      · rw [Nat.zero_pow e] at hi; omega
    subst this;exact args00
  · refine argsN (by omega) e ?_;have h1 : L ^ K ≤ 1000 ^ K := Nat.pow_le_pow_left hL K;have h2 : (1000 : Nat) ^ K ≤ 1000 ^ 3 := Nat.pow_le_pow_right (by omega) hK;omega

theorem Ue (N : Nat) (T : List Nat) (ts : List (List Nat)) : apT N T ts 2 = [ga T (ix N 0 (ts.map fun t => ga t 0)),ga T (ix N 0 (ts.map fun t => ga t 1))] := rfl

set_option linter.unusedVariables false
def cnt (H : List Bool) : Nat := H.countP id

theorem cnt_set {H : List Bool} {c : Nat} (hc : c < H.length) (h : bt H c = false) : cnt (H.set c true) = cnt H + 1 := by
  have e : H[c] = false := by simpa [bt,gge hc] using h
  unfold cnt;rw [List.countP_set hc];simp [e]

theorem cnt_le (H : List Bool) : cnt H ≤ H.length := List.countP_le_length

structure PInv (N : Nat) (ops : List (Int × List Int)) (B : List (List Nat)) (H0 : List Bool) (ch : Bool) (H : List Bool) : Prop where
  len : H.length = N * N
  up : ∀ c,bt H0 c = true → bt H c = true
  gen : ∀ c,bt H c = true → Gen N ops 2 B (pt N c)
  stay : ch = false → H = H0
  more : ch = true → cnt H0 < cnt H

theorem PInv.old {N : Nat} {ops : List (Int × List Int)} {B : List (List Nat)} {H : List Bool} (h : H.length = N * N) (hg : ∀ c,bt H c = true → Gen N ops 2 B (pt N c)) : PInv N ops B H false H := ⟨h,fun _ h => h,hg,fun _ => rfl,fun h => by cases h⟩

theorem PInv.set {N : Nat} {ops : List (Int × List Int)} {B : List (List Nat)} {H0 H : List Bool} {ch : Bool} (h : PInv N ops B H0 ch H) {c : Nat} (hc : c < N * N) (hn : bt H c = false) (hg : Gen N ops 2 B (pt N c)) : PInv N ops B H0 true (H.set c true) := by
  have hc' : c < H.length := by rw [h.len]; exact hc
  refine ⟨by simp [h.len],fun d hd => ?_,fun d hd => ?_,fun h => (by cases h),fun _ => ?_⟩
  · rw [ui hc',h.up d hd]; simp
  · rw [ui hc'] at hd;by_cases e : d = c
    · rw [e]; exact hg
    · exact h.gen d (by simpa [e] using hd)
  · rw [cnt_set hc' hn];cases ch with
    | false => rw [h.stay rfl]; omega
    | true => have := h.more rfl; omega

def cdA (N : Nat) (T R ds : List Nat) : Nat := cd N (apT N T (ds.map fun x => pt N (ga R x)) 2)

theorem cdA_eq (N : Nat) (T R ds : List Nat) : cdA N T R ds = ga T (ix N 0 (ds.map fun x => ga R x / N)) * N + ga T (ix N 0 (ds.map fun x => ga R x % N)) := by
  unfold cdA;rw [Ue,List.map_map,List.map_map]; rfl

theorem XY {α S R : Type} {step : Int → α → S → Option (Ctl S R)} {i : Int} {x : α} {l : List α} {s s' : S} (h : step i x s = some (.nx s')) : forR step i (x :: l) s = forR step (i + 1) l s' := by
  conv => lhs; unfold forR
  rw [h]

theorem code_loop {N K : Nat} {R ds : List Nat} (hN : 1 ≤ N) (h8 : N ≤ 8) (hds : ds.length = K) (hK : K ≤ 3) (hR : ∀ x ∈ R,x < N * N) (hx : ∀ x ∈ ds,x < R.length) : forR (S := Int × Int) (R := (List Bool)) (fun _ x1339 s1336 =>
  (idx (NL R) x1339).bind fun x1344 =>
  (nz (N : Int)).bind fun u1346 =>
  (idx (NL R) x1339).bind fun x1347 =>
  (nz (N : Int)).bind fun u1349 =>
  some (.nx (w64 ((w64 (s1336.1 * (N : Int))) + (w64 (Int.tdiv x1344 (N : Int)))),w64 ((w64 (s1336.2 * (N : Int))) + (Int.tmod x1347 (N : Int)))))) 0 (NL ds) (0,0) = some (.br (((ix N 0 (ds.map fun x => ga R x / N) : Nat) : Int),((ix N 0 (ds.map fun x => ga R x % N) : Nat) : Int))) := by
  have key : ∀ (ds pre : List Nat) (i : Int),(pre ++ ds).length ≤ 3 → (∀ x ∈ pre ++ ds,x < R.length) → forR (S := Int × Int) (R := (List Bool)) (fun _ x1339 s1336 =>
  (idx (NL R) x1339).bind fun x1344 =>
  (nz (N : Int)).bind fun u1346 =>
  (idx (NL R) x1339).bind fun x1347 =>
  (nz (N : Int)).bind fun u1349 =>
  some (.nx (w64 ((w64 (s1336.1 * (N : Int))) + (w64 (Int.tdiv x1344 (N : Int)))),w64 ((w64 (s1336.2 * (N : Int))) + (Int.tmod x1347 (N : Int)))))) i (NL ds) (((ix N 0 (pre.map fun x => ga R x / N) : Nat) : Int),((ix N 0 (pre.map fun x => ga R x % N) : Nat) : Int)) = some (.br (((ix N 0 ((pre ++ ds).map fun x => ga R x / N) : Nat) : Int),((ix N 0 ((pre ++ ds).map fun x => ga R x % N) : Nat) : Int))) := by
    intro ds
    induction ds with
    | nil => intro pre i _ _; rw [lan]; rfl
    | cons d ds ih =>
      intro pre i hl hx;have hd : d < R.length := hx d (by simp);have hlt : ∀ x ∈ pre,ga R x < N * N := fun x h => hR _ (yp (hx x (by simp [h])))
      have hpl : pre.length ≤ 2 := by simp at hl; omega
      have hp2 : N ^ pre.length ≤ 64 := Nat.le_trans (Nat.pow_le_pow_left h8 _) (Nat.le_trans (Nat.pow_le_pow_right (by omega) hpl) (by decide));have b1 : ix N 0 (pre.map fun x => ga R x / N) < N ^ pre.length := Xe (fun y hy => by
        obtain ⟨x,h,rfl⟩ := List.mem_map.1 hy;exact Nat.div_lt_of_lt_mul (hlt x h)) (by simp)
      have b2 : ix N 0 (pre.map fun x => ga R x % N) < N ^ pre.length := Xe (fun y hy => by
        obtain ⟨x,h,rfl⟩ := List.mem_map.1 hy;exact Nat.mod_lt _ hN) (by simp)
      have b3 : ix N 0 (pre.map fun x => ga R x / N) * N ≤ 64 * 8 := Nat.mul_le_mul (by omega) h8;have b4 : ix N 0 (pre.map fun x => ga R x % N) * N ≤ 64 * 8 := Nat.mul_le_mul (by omega) h8;have b5 : ga R d < N * N := hR _ (yp hd);have b6 : N * N ≤ 64 := Nat.mul_le_mul h8 h8;have b7 : ga R d / N ≤ ga R d := Nat.div_le_self _ _;have b8 : ga R d % N < N := Nat.mod_lt _ hN;have := ih (pre ++ [d]) (i + 1) (by simp at hl ⊢; omega) (fun x h => hx x (by simpa using h));rw [VE];have e1 : ix N 0 (pre.map fun x => ga R x / N) * N + ga R d / N = ix N 0 ((pre ++ [d]).map fun x => ga R x / N) := by rw [List.map_append,wW]; rfl
      have e2 : ix N 0 (pre.map fun x => ga R x % N) * N + ga R d % N = ix N 0 ((pre ++ [d]).map fun x => ga R x % N) := by rw [List.map_append,wW]; rfl
      rw [XY (s' := (((ix N 0 ((pre ++ [d]).map fun x => ga R x / N) : Nat) : Int),((ix N 0 ((pre ++ [d]).map fun x => ga R x % N) : Nat) : Int))) (by
        rw [YN hd,obs,zcK hN,obs,obs,obs,Vm (by omega),show Int.tmod ((ga R d : Nat) : Int) (N : Int) = ((ga R d % N : Nat) : Int) from rfl,yS (by omega),yS (by omega),XC (by omega),XC (by omega),e1,e2])]
      rw [show pre ++ d :: ds = (pre ++ [d]) ++ ds by simp];exact this
  exact key ds [] 0 (by simp; omega) (by simpa using hx)

set_option linter.unusedVariables false

theorem XG {N : Nat} (h8 : N ≤ 8) : N * N ≤ 64 := Nat.mul_le_mul h8 h8

theorem zbl {N K : Nat} {f : Int × List Int} {T R ds : List Nat} (ho : OpN N f K T) (hds : ds.length = K) (hR : ∀ x ∈ R,x < N * N) (hx : ∀ x ∈ ds,x < R.length) : TupN N 2 (apT N T (ds.map fun x => pt N (ga R x)) 2) :=
  Vu ho (by simp [hds]) (fun t ht => by
    obtain ⟨x,h,rfl⟩ := List.mem_map.1 ht;exact Wh (hR _ (yp (hx x h))))

theorem pairs_op {N K : Nat} {ops : List (Int × List Int)} {f : Int × List Int} {T : List Nat} {B : List (List Nat)} {H0 H : List Bool} {ch : Bool} (hN : 1 ≤ N) (h8 : N ≤ 8) (hf : f ∈ ops) (ho : OpN N f K T)
    (h0 : H0.length = N * N) (hg0 : ∀ c,bt H0 c = true → Gen N ops 2 B (pt N c)) (hI : PInv N ops B H0 ch H) :
    ∃ ch' i' H',iter (S := Bool × Int × (List Bool)) (R := (List Bool)) (fun s1314 =>
  (ZB ((NL (mk H0)).length : Int) (K : Int)).bind fun r1323 =>
  (bif (decide (s1314.2.1 < r1323)) then (Zp s1314.2.1 (K : Int) ((NL (mk H0)).length : Int)).bind fun r1326 =>
  (forR (S := Int × Int) (R := (List Bool)) (fun _ x1339 s1336 =>
  (idx (NL (mk H0)) x1339).bind fun x1344 =>
  (nz (N : Int)).bind fun u1346 =>
  (idx (NL (mk H0)) x1339).bind fun x1347 =>
  (nz (N : Int)).bind fun u1349 =>
  some (.nx (w64 ((w64 (s1336.1 * (N : Int))) + (w64 (Int.tdiv x1344 (N : Int)))),w64 ((w64 (s1336.2 * (N : Int))) + (Int.tmod x1347 (N : Int)))))) 0 r1326 (0,0)).bind fun o1340 => after o1340 (fun r_ => some (.rt r_)) (fun s1336 =>
  (idx (NL T) s1336.1).bind fun x1356 =>
  (idx (NL T) s1336.2).bind fun x1358 =>
  (idx s1314.2.2 (w64 ((w64 (x1356 * (N : Int))) + x1358))).bind fun x1360 =>
  (bif (!x1360) then (idx s1314.2.2 (w64 ((w64 (x1356 * (N : Int))) + x1358))).bind fun x1363 =>
  some (.nx (true,w64 (s1314.2.1 + 1),List.set s1314.2.2 (Int.toNat (w64 ((w64 (x1356 * (N : Int))) + x1358))) true)) else some (.nx (s1314.1,w64 (s1314.2.1 + 1),s1314.2.2)))) else some (.br (s1314.1,s1314.2.1,s1314.2.2)))) FU (ch,0,H) = some (.br (ch',i',H')) ∧ PInv N ops B H0 ch' H' ∧ (∀ c,bt H c = true → bt H' c = true) ∧ ∀ i,i < (mk H0).length ^ K → bt H' (cdA N T (mk H0) (dig (mk H0).length K i)) = true := by
  have h64 := XG h8;have hL : (mk H0).length ≤ 64 := by have := mk_len (H := H0); omega
  have hK := ho.k3;have hP : (mk H0).length ^ K ≤ 64 ^ 3 := Nat.le_trans (Nat.pow_le_pow_left hL K) (Nat.pow_le_pow_right (by omega) hK);have hR : ∀ x ∈ mk H0,x < N * N := fun x hx => by rw [← h0]; exact (vU.1 hx).1
  obtain ⟨c,hc,⟨ch',i',H',rfl,h1,h2,h3⟩,_⟩ := yy (S := Bool × Int × (List Bool)) (R := (List Bool)) (step := fun s1314 =>
  (ZB ((NL (mk H0)).length : Int) (K : Int)).bind fun r1323 =>
  (bif (decide (s1314.2.1 < r1323)) then (Zp s1314.2.1 (K : Int) ((NL (mk H0)).length : Int)).bind fun r1326 =>
  (forR (S := Int × Int) (R := (List Bool)) (fun _ x1339 s1336 =>
  (idx (NL (mk H0)) x1339).bind fun x1344 =>
  (nz (N : Int)).bind fun u1346 =>
  (idx (NL (mk H0)) x1339).bind fun x1347 =>
  (nz (N : Int)).bind fun u1349 =>
  some (.nx (w64 ((w64 (s1336.1 * (N : Int))) + (w64 (Int.tdiv x1344 (N : Int)))),w64 ((w64 (s1336.2 * (N : Int))) + (Int.tmod x1347 (N : Int)))))) 0 r1326 (0,0)).bind fun o1340 => after o1340 (fun r_ => some (.rt r_)) (fun s1336 =>
  (idx (NL T) s1336.1).bind fun x1356 =>
  (idx (NL T) s1336.2).bind fun x1358 =>
  (idx s1314.2.2 (w64 ((w64 (x1356 * (N : Int))) + x1358))).bind fun x1360 =>
  (bif (!x1360) then (idx s1314.2.2 (w64 ((w64 (x1356 * (N : Int))) + x1358))).bind fun x1363 =>
  some (.nx (true,w64 (s1314.2.1 + 1),List.set s1314.2.2 (Int.toNat (w64 ((w64 (x1356 * (N : Int))) + x1358))) true)) else some (.nx (s1314.1,w64 (s1314.2.1 + 1),s1314.2.2)))) else some (.br (s1314.1,s1314.2.1,s1314.2.2))))
    (fun s => ∃ ch',∃ i : Nat,∃ H',s = (ch',(i : Int),H') ∧ i ≤ (mk H0).length ^ K ∧ PInv N ops B H0 ch' H' ∧ (∀ c,bt H c = true → bt H' c = true) ∧ ∀ i',i' < i → bt H' (cdA N T (mk H0) (dig (mk H0).length K i')) = true)
    (fun s => 1000000 - s.2.1.toNat)
    (fun c => ∃ ch' i' H',c = .br (ch',i',H') ∧ PInv N ops B H0 ch' H' ∧ (∀ c,bt H c = true → bt H' c = true) ∧ ∀ i,i < (mk H0).length ^ K → bt H' (cdA N T (mk H0) (dig (mk H0).length K i)) = true)
    FU (ch,0,H) ⟨ch,0,H,rfl,Nat.zero_le _,hI,fun _ h => h,fun i' h => by omega⟩ (by simp [FU]) (by
      rintro s ⟨ch',i,H',rfl,hi,hI',hup,hp⟩;simp only [Xn];rw [powerA hK (by omega),obs];simp only [Yi];by_cases hil : i < (mk H0).length ^ K
      · left;have hdl : ∀ x ∈ dig (mk H0).length K i,x < (mk H0).length := fun x hx => by
          rcases Nat.eq_zero_or_pos (mk H0).length with e | e
          · rcases Nat.eq_zero_or_pos K with e2 | e2
            · subst e2; simp [dig] at hx
            · rw [e,Nat.zero_pow e2] at hil; omega
          · exact wO e K i x hx
        have htup := zbl ho (Yt _ _ _) hR hdl;rw [show decide (i < (mk H0).length ^ K) = true by simpa using hil,ct1,argsA hK hil (by omega),obs,code_loop hN h8 (Yt _ _ _) hK hR hdl,obs,zY];rw [Ue,List.map_map,List.map_map] at htup;have q1 : ga T (ix N 0 ((dig (mk H0).length K i).map fun x => ga (mk H0) x / N)) < N := htup.2 _ (by simp [pt,Function.comp_def,ga]);have q2 : ga T (ix N 0 ((dig (mk H0).length K i).map fun x => ga (mk H0) x % N)) < N := htup.2 _ (by simp [pt,Function.comp_def,ga]);have hb1 : ix N 0 ((dig (mk H0).length K i).map fun x => ga (mk H0) x / N) < T.length := by
          rw [ho.len];exact Xe (fun y hy => by
            obtain ⟨x,h,rfl⟩ := List.mem_map.1 hy;exact Nat.div_lt_of_lt_mul (hR _ (yp (hdl x h)))) (by simp)
        have hb2 : ix N 0 ((dig (mk H0).length K i).map fun x => ga (mk H0) x % N) < T.length := by
          rw [ho.len];exact Xe (fun y hy => by
            obtain ⟨x,h,rfl⟩ := List.mem_map.1 hy;exact Nat.mod_lt _ hN) (by simp)
        have hcode : cdA N T (mk H0) (dig (mk H0).length K i) < N * N := zcH (zbl ho (Yt _ _ _) hR hdl);have hlen := hI'.len;have ecd := cdA_eq N T (mk H0) (dig (mk H0).length K i);simp only [YN hb1,YN hb2,obs];have b3 : ga T (ix N 0 ((dig (mk H0).length K i).map fun x => ga (mk H0) x / N)) * N ≤ 8 * 8 := Nat.mul_le_mul (by omega) h8;rw [yS (by omega),XC (by omega),← ecd,zbs (by omega),obs,ZY (by omega),obs];cases hb : bt H' (cdA N T (mk H0) (dig (mk H0).length K i)) with
        | true =>
          rw [bnt,ct0];refine ⟨_,rfl,⟨ch',i + 1,H',rfl,by omega,hI',hup,fun i' hi' => ?_⟩,by simp; omega⟩;by_cases e : i' = i
          · rw [e]; exact hb
          · exact hp i' (by omega)
        | false =>
          rw [bnf,ct1];have hg : Gen N ops 2 B (pt N (cdA N T (mk H0) (dig (mk H0).length K i))) := by
            unfold cdA;rw [uy (zbl ho (Yt _ _ _) hR hdl)];exact .app hf ho (by simp) (fun t ht => by
              obtain ⟨x,h,rfl⟩ := List.mem_map.1 ht;exact hg0 _ (vU.1 (yp (hdl x h))).2)
          refine ⟨_,rfl,⟨true,i + 1,H'.set (cdA N T (mk H0) (dig (mk H0).length K i)) true,rfl,by omega,hI'.set hcode hb hg,fun c h => ?_,fun i' hi' => ?_⟩,by simp; omega⟩
          · rw [ui (by omega),hup c h]; simp
          · rw [ui (by omega)];by_cases e : i' = i
            · rw [e]; simp
            · rw [hp i' (by omega)]; simp
      · right;rw [show decide (i < (mk H0).length ^ K) = false by simpa using hil,ct0];exact ⟨_,rfl,by intro s; simp,ch',_,H',rfl,hI',hup,fun i' h => hp i' (by omega)⟩)
  exact ⟨ch',i',H',hc,h1,h2,h3⟩

end Go.Proofs
