/- Plain lemmas on what the functions compute, up to: the law gives true. No conditions. -/
import Derived.Test.YtlfpejnpjpmejaaGreatDoorL0
set_option linter.unusedVariables false
namespace Go.Proofs
open Go.G
set_option maxRecDepth 100000

set_option linter.unusedVariables false

theorem round_ops {N : Nat} {a : Int × List (Int × List Int)} {B : List (List Nat)} {H0 : List Bool} (ha : AlgW a N) (h0 : H0.length = N * N) (hg0 : ∀ c,bt H0 c = true → Gen N a.2 2 B (pt N c)) :
    ∃ ch H,forR (S := Bool × (List Bool)) (R := (List Bool)) (fun _ x1215 s1212 =>
  (iter (S := Bool × Int × (List Bool)) (R := (List Bool)) (fun s1314 =>
  (ZB ((NL (mk H0)).length : Int) x1215.1).bind fun r1323 =>
  (bif (decide (s1314.2.1 < r1323)) then (Zp s1314.2.1 x1215.1 ((NL (mk H0)).length : Int)).bind fun r1326 =>
  (forR (S := Int × Int) (R := (List Bool)) (fun _ x1339 s1336 =>
  (idx (NL (mk H0)) x1339).bind fun x1344 =>
  (nz (N : Int)).bind fun u1346 =>
  (idx (NL (mk H0)) x1339).bind fun x1347 =>
  (nz (N : Int)).bind fun u1349 =>
  some (.nx (w64 ((w64 (s1336.1 * (N : Int))) + (w64 (Int.tdiv x1344 (N : Int)))),w64 ((w64 (s1336.2 * (N : Int))) + (Int.tmod x1347 (N : Int)))))) 0 r1326 (0,0)).bind fun o1340 => after o1340 (fun r_ => some (.rt r_)) (fun s1336 =>
  (idx x1215.2 s1336.1).bind fun x1356 =>
  (idx x1215.2 s1336.2).bind fun x1358 =>
  (idx s1314.2.2 (w64 ((w64 (x1356 * (N : Int))) + x1358))).bind fun x1360 =>
  (bif (!x1360) then (idx s1314.2.2 (w64 ((w64 (x1356 * (N : Int))) + x1358))).bind fun x1363 =>
  some (.nx (true,w64 (s1314.2.1 + 1),List.set s1314.2.2 (Int.toNat (w64 ((w64 (x1356 * (N : Int))) + x1358))) true)) else some (.nx (s1314.1,w64 (s1314.2.1 + 1),s1314.2.2)))) else some (.br (s1314.1,s1314.2.1,s1314.2.2)))) FU (s1212.1,0,s1212.2)).bind fun o1318 => after o1318 (fun r_ => some (.rt r_)) (fun s1314 =>
  some (.nx (s1314.1,s1314.2.2)))) 0 a.2 (false,H0) = some (.br (ch,H)) ∧ PInv N a.2 B H0 ch H ∧ ∀ f ∈ a.2,∀ K T,OpN N f K T → ∀ i,i < (mk H0).length ^ K → bt H (cdA N T (mk H0) (dig (mk H0).length K i)) = true := by
  have := UK (S := Bool × (List Bool)) (R := (List Bool)) (step := fun _ x1215 s1212 =>
  (iter (S := Bool × Int × (List Bool)) (R := (List Bool)) (fun s1314 =>
  (ZB ((NL (mk H0)).length : Int) x1215.1).bind fun r1323 =>
  (bif (decide (s1314.2.1 < r1323)) then (Zp s1314.2.1 x1215.1 ((NL (mk H0)).length : Int)).bind fun r1326 =>
  (forR (S := Int × Int) (R := (List Bool)) (fun _ x1339 s1336 =>
  (idx (NL (mk H0)) x1339).bind fun x1344 =>
  (nz (N : Int)).bind fun u1346 =>
  (idx (NL (mk H0)) x1339).bind fun x1347 =>
  (nz (N : Int)).bind fun u1349 =>
  some (.nx (w64 ((w64 (s1336.1 * (N : Int))) + (w64 (Int.tdiv x1344 (N : Int)))),w64 ((w64 (s1336.2 * (N : Int))) + (Int.tmod x1347 (N : Int)))))) 0 r1326 (0,0)).bind fun o1340 => after o1340 (fun r_ => some (.rt r_)) (fun s1336 =>
  (idx x1215.2 s1336.1).bind fun x1356 =>
  (idx x1215.2 s1336.2).bind fun x1358 =>
  (idx s1314.2.2 (w64 ((w64 (x1356 * (N : Int))) + x1358))).bind fun x1360 =>
  (bif (!x1360) then (idx s1314.2.2 (w64 ((w64 (x1356 * (N : Int))) + x1358))).bind fun x1363 =>
  some (.nx (true,w64 (s1314.2.1 + 1),List.set s1314.2.2 (Int.toNat (w64 ((w64 (x1356 * (N : Int))) + x1358))) true)) else some (.nx (s1314.1,w64 (s1314.2.1 + 1),s1314.2.2)))) else some (.br (s1314.1,s1314.2.1,s1314.2.2)))) FU (s1212.1,0,s1212.2)).bind fun o1318 => after o1318 (fun r_ => some (.rt r_)) (fun s1314 =>
  some (.nx (s1314.1,s1314.2.2))))
    (fun pre s => ∃ ch H,s = (ch,H) ∧ PInv N a.2 B H0 ch H ∧ ∀ f ∈ pre,∀ K T,OpN N f K T → ∀ i,i < (mk H0).length ^ K → bt H (cdA N T (mk H0) (dig (mk H0).length K i)) = true)
    (fun _ => False) (fun _ => False) a.2 [] 0 (false,H0) ⟨false,H0,rfl,.old h0 hg0,List.forall_mem_nil _⟩ (by
      rintro i pre f post s e ⟨ch,H,rfl,hI,hp⟩;left;have hf : f ∈ a.2 := by rw [e]; simp
      obtain ⟨K,T,ho⟩ := ha.ops f hf;obtain ⟨ch',i',H',r1,r2,r3,r4⟩ := pairs_op ha.n1 ha.n8 hf ho h0 hg0 hI;refine ⟨(ch',H'),?_,ch',H',rfl,r2,fun g hg K' T' ho' i hi => ?_⟩
      · rw [ho.eq];show ((iter _ FU (ch,0,H)).bind _) = _;rw [r1]; rfl
      · simp only [List.nil_append,List.mem_append,List.mem_singleton] at hg;rcases hg with hg | rfl
        · exact r3 _ (hp g (by simpa using hg) K' T' ho' i hi)
        · obtain ⟨rfl,rfl⟩ := ho.uniq ho';exact r4 i hi)
  rcases this with ⟨s',e,h | h⟩ | ⟨r,_,h⟩
  · obtain ⟨ch,H,rfl,h1,h2⟩ := h;exact ⟨ch,H,e,h1,fun f hf => h2 f (by simpa using hf)⟩
  · exact h.elim
  · exact h.elim

theorem rows_of (R : List Nat) (N : Nat) : ∀ (ts : List (List Nat)),(∀ t ∈ ts,TupN N 2 t ∧ cd N t ∈ R) → ∃ ds : List Nat,ds.length = ts.length ∧ (∀ x ∈ ds,x < R.length) ∧ ds.map (fun x => pt N (ga R x)) = ts
  | [],_ => ⟨[],rfl,List.forall_mem_nil _,rfl⟩
  | t :: ts,h => by
    obtain ⟨ds,h1,h2,h3⟩ := rows_of R N ts (fun u hu => h u (by simp [hu]));obtain ⟨i,hi,e⟩ := List.mem_iff_getElem.1 (h t (by simp)).2;refine ⟨i :: ds,by simp [h1],fun x hx => ?_,?_⟩
    · rcases List.mem_cons.1 hx with rfl | hx
      · exact hi
      · exact h2 x hx
    · rw [List.map_cons,h3,YT hi,e,uy (h t (by simp)).1]

theorem zcP {N : Nat} {ops : List (Int × List Int)} {H : List Bool} (h : H.length = N * N) (hp : ∀ f ∈ ops,∀ K T,OpN N f K T → ∀ i,i < (mk H).length ^ K → bt H (cdA N T (mk H) (dig (mk H).length K i)) = true) :
    Clsd N ops 2 (fun t => TupN N 2 t ∧ bt H (cd N t) = true) := by
  intro f hf K T ho ts hl ht;obtain ⟨ds,h1,h2,h3⟩ := rows_of (mk H) N ts (fun t h' => ⟨(ht t h').1,vU.2 ⟨by rw [h]; exact zcH (ht t h').1,(ht t h').2⟩⟩);refine ⟨Vu ho hl (fun t h => (ht t h).1),?_⟩;have hdig : dig (mk H).length K (ix (mk H).length 0 ds) = ds ∧ ix (mk H).length 0 ds < (mk H).length ^ K := by
    refine ⟨?_,Xe h2 (by omega)⟩;rcases Nat.eq_zero_or_pos (mk H).length with e | e
    · have : ds = [] := by
        cases ds with
        | nil => rfl
        | cons d ds => have := h2 d (by simp); omega
      subst this;have : K = 0 := by simpa using (show ([] : List Nat).length = K by omega).symm
      subst this; rfl
    · exact zbw e K ds (by omega) h2
  have := hp f hf K T ho _ hdig.2;rw [hdig.1] at this;unfold cdA at this
  rwa [h3] at this

theorem zah {N : Nat} {a : Int × List (Int × List Int)} {H0 : List Bool} (ha : AlgW a N) (h0 : H0.length = N * N) :
    ∃ H,Ze (N : Int) a.2 H0 = some H ∧ H.length = N * N ∧ ∀ c,c < N * N → (bt H c = true ↔ Gen N a.2 2 ((mk H0).map (pt N)) (pt N c)) := by
  have h64 := XG ha.n8;unfold Ze;obtain ⟨c,hc,⟨H,rfl,h1,h2,h3,h4⟩,_⟩ := yy (S := Bool × (List Bool)) (R := (List Bool)) (step := fun s907 =>
  (bif s907.1 then (ZO s907.2).bind fun r917 =>
  (forR (S := Bool × (List Bool)) (R := (List Bool)) (fun _ x1215 s1212 =>
  (iter (S := Bool × Int × (List Bool)) (R := (List Bool)) (fun s1314 =>
  (ZB (r917.length : Int) x1215.1).bind fun r1323 =>
  (bif (decide (s1314.2.1 < r1323)) then (Zp s1314.2.1 x1215.1 (r917.length : Int)).bind fun r1326 =>
  (forR (S := Int × Int) (R := (List Bool)) (fun _ x1339 s1336 =>
  (idx r917 x1339).bind fun x1344 =>
  (nz (N : Int)).bind fun u1346 =>
  (idx r917 x1339).bind fun x1347 =>
  (nz (N : Int)).bind fun u1349 =>
  some (.nx (w64 ((w64 (s1336.1 * (N : Int))) + (w64 (Int.tdiv x1344 (N : Int)))),w64 ((w64 (s1336.2 * (N : Int))) + (Int.tmod x1347 (N : Int)))))) 0 r1326 (0,0)).bind fun o1340 => after o1340 (fun r_ => some (.rt r_)) (fun s1336 =>
  (idx x1215.2 s1336.1).bind fun x1356 =>
  (idx x1215.2 s1336.2).bind fun x1358 =>
  (idx s1314.2.2 (w64 ((w64 (x1356 * (N : Int))) + x1358))).bind fun x1360 =>
  (bif (!x1360) then (idx s1314.2.2 (w64 ((w64 (x1356 * (N : Int))) + x1358))).bind fun x1363 =>
  some (.nx (true,w64 (s1314.2.1 + 1),List.set s1314.2.2 (Int.toNat (w64 ((w64 (x1356 * (N : Int))) + x1358))) true)) else some (.nx (s1314.1,w64 (s1314.2.1 + 1),s1314.2.2)))) else some (.br (s1314.1,s1314.2.1,s1314.2.2)))) FU (s1212.1,0,s1212.2)).bind fun o1318 => after o1318 (fun r_ => some (.rt r_)) (fun s1314 =>
  some (.nx (s1314.1,s1314.2.2)))) 0 a.2 (false,s907.2)).bind fun o1216 => after o1216 (fun r_ => some (.rt r_)) (fun s1212 =>
  some (.nx (s1212.1,s1212.2))) else some (.br (s907.1,s907.2))))
    (fun s => ∃ w H,s = (w,H) ∧ H.length = N * N ∧ (∀ c,bt H0 c = true → bt H c = true) ∧ (∀ c,bt H c = true → Gen N a.2 2 ((mk H0).map (pt N)) (pt N c)) ∧ (w = false → Clsd N a.2 2 (fun t => TupN N 2 t ∧ bt H (cd N t) = true)))
    (fun s => 2 * (N * N) - 2 * cnt s.2 + (if s.1 then 1 else 0))
    (fun c => ∃ H,c = .br (false,H) ∧ H.length = N * N ∧ (∀ c,bt H0 c = true → bt H c = true) ∧ (∀ c,bt H c = true → Gen N a.2 2 ((mk H0).map (pt N)) (pt N c)) ∧ Clsd N a.2 2 (fun t => TupN N 2 t ∧ bt H (cd N t) = true))
    FU (true,H0) ⟨true,H0,rfl,h0,fun _ h => h,fun c h => .base (List.mem_map.2 ⟨c,vU.2 ⟨bt_lt h,h⟩,rfl⟩),fun h => by cases h⟩ (by simp [FU]; omega) (by
      rintro s ⟨w,H,rfl,hl,hup,hg,hcl⟩;cases w with
      | false => exact .inr ⟨_,rfl,by intro s; simp,H,rfl,hl,hup,hg,hcl rfl⟩
      | true =>
        left;obtain ⟨ch,H',r1,r2,r3⟩ := round_ops ha hl hg;refine ⟨(ch,H'),?_,⟨ch,H',rfl,r2.len,fun c h => r2.up c (hup c h),r2.gen,fun hch => ?_⟩,?_⟩
        · show ((ZO H).bind _) = _;rw [zaR (by omega),obs,r1]; rfl
        · have e := r2.stay hch;subst e;exact zcP hl r3
        · have c1 := cnt_le H;have c2 := cnt_le H';have c3 := r2.len;cases ch with
          | false => have e := r2.stay rfl; subst e; simp
          | true => have := r2.more rfl; simp; omega)
  rw [hc,obs,zY];refine ⟨H,rfl,h1,fun c hcl => ⟨fun h => h3 c h,fun h => ?_⟩⟩;have := Gen.least (S := fun t => TupN N 2 t ∧ bt H (cd N t) = true) (fun t ht => by
    obtain ⟨d,hd,rfl⟩ := List.mem_map.1 ht;obtain ⟨d1,d2⟩ := vU.1 hd;exact ⟨Wh (by rw [← h0]; exact d1),by rw [UA]; exact h2 d d2⟩) h4 h
  rw [UA] at this;exact this.2

set_option linter.unusedVariables false
def ltT (X Y : List Nat) : Bool := decide (X.length < Y.length) || (decide (X.length = Y.length) && Zs X Y)

theorem vi (X : List Nat) : ltT X X = false := by simp [ltT,yQ]

theorem UN {P Q R : List Nat} (h : ltT P Q = true) (h' : ltT Q R = true) : ltT P R = true := by
  simp only [ltT,Bool.or_eq_true,Bool.and_eq_true,decide_eq_true_eq] at h h' ⊢;rcases h with h | ⟨h1,h2⟩ <;> rcases h' with h' | ⟨h3,h4⟩
  · left; omega
  · left; omega
  · left; omega
  · right; exact ⟨by omega,Yu h2 h4⟩

theorem zbK {P Q : List Nat} (h : ltT P Q = false) (hne : P ≠ Q) : ltT Q P = true := by
  simp only [ltT,Bool.or_eq_false_iff,Bool.and_eq_false_iff,decide_eq_false_iff_not] at h;simp only [ltT,Bool.or_eq_true,Bool.and_eq_true,decide_eq_true_eq];obtain ⟨h1,h2⟩ := h;by_cases e : P.length = Q.length
  · right;exact ⟨e.symm,uf e (by simpa using h2.resolve_left (fun h => h e)) hne⟩
  · left; omega

theorem ltT_ordr : Ordr ltT := by
  refine ⟨fun {x y} h => ?_,fun {x y z} h h' => ?_⟩
  · cases hc : ltT y x with
    | false => rfl
    | true => have := vi x; rw [UN h hc] at this; cases this
  · cases hc : ltT z x with
    | false => rfl
    | true =>
      by_cases e3 : y = x
      · subst e3; rw [h'] at hc; cases hc
      · have := UN hc (zbK h e3);rw [h'] at this; cases this

theorem uS {a b : List Nat} (ha : a.length ≤ 4294967296) : ∃ c,ZL (NL a) (NL b) = some c ∧ (c < 0 ↔ ltT a b = true) := by
  unfold ZL;simp only [Xn,Yi,ltT,Bool.or_eq_true,Bool.and_eq_true,decide_eq_true_eq];by_cases h1 : a.length < b.length
  · rw [show decide (a.length < b.length) = true by simpa using h1,ct1];exact ⟨_,rfl,⟨fun _ => .inl h1,fun _ => by omega⟩⟩
  · rw [show decide (a.length < b.length) = false by simpa using h1,ct0];by_cases h2 : b.length < a.length
    · rw [show decide (b.length < a.length) = true by simpa using h2,ct1];exact ⟨_,rfl,⟨fun h => by omega,fun h => by omega⟩⟩
    · rw [show decide (b.length < a.length) = false by simpa using h2,ct0,uT ha,obs];refine ⟨_,rfl,?_⟩;rw [cmpL_lt (by omega)];exact ⟨fun h => .inr ⟨by omega,h⟩,fun h => h.elim (fun h => by omega) (fun h => h.2)⟩

theorem sortT_eq {L : List (List Nat)} (hL : ∀ P ∈ L,P.length ≤ 4294967296) (hl : L.length ≤ 1000000000) (hnd : L.Nodup) :
    ∃ M : List (List Nat),Zh (NLL L) = some (NLL M) ∧ M.Perm L ∧ M.Pairwise fun a b => ltT a b = true := by
  unfold Zh;obtain ⟨M,e,hp,hs⟩ := uJ (ls := fun x_ y_ => (ZL x_ y_).bind fun r_ => some (decide (r_ < 0))) ltT_ordr (L := L) (fun x hx y hy => by
    obtain ⟨c,hc,hi⟩ := uS (a := x) (b := y) (hL x hx);rw [hc,obs];congr 1;rw [Bool.eq_iff_iff];simp only [decide_eq_true_eq,hi]) hl
  refine ⟨M,by rw [e]; rfl,hp,?_⟩;have hnd' : M.Nodup := hp.nodup_iff.2 hnd;exact (hs.and hnd').imp (fun {a b} h => zbK h.1 (fun e => h.2 e.symm))
noncomputable def clo (N : Nat) (ops : List (Int × List Int)) (X : List Nat) : List Nat := (List.range (N * N)).filter fun c => @decide (Gen N ops 2 (X.map (pt N)) (pt N c)) (Classical.propDecidable _)

theorem wF {N : Nat} {ops : List (Int × List Int)} {X : List Nat} {c : Nat} : c ∈ clo N ops X ↔ c < N * N ∧ Gen N ops 2 (X.map (pt N)) (pt N c) := by simp [clo]

theorem clo_lt {N : Nat} {ops : List (Int × List Int)} {X : List Nat} : ∀ x ∈ clo N ops X,x < N * N := fun x hx => (wF.1 hx).1

theorem zby {N : Nat} {ops : List (Int × List Int)} {X : List Nat} : (clo N ops X).Pairwise (· < ·) := List.Pairwise.filter _ List.pairwise_lt_range

theorem zdq {N : Nat} {ops : List (Int × List Int)} {X : List Nat} : (clo N ops X).length ≤ N * N := by
  have := List.length_filter_le (fun c => @decide (Gen N ops 2 (X.map (pt N)) (pt N c)) (Classical.propDecidable _)) (List.range (N * N)); simpa [clo] using this

theorem zaJ {N : Nat} {ops : List (Int × List Int)} {X Y : List Nat} (h : ∀ x,x ∈ X ↔ x ∈ Y) : clo N ops X = clo N ops Y := by
  unfold clo;congr 1
  funext c
  have : Gen N ops 2 (X.map (pt N)) (pt N c) ↔ Gen N ops 2 (Y.map (pt N)) (pt N c) :=
    ⟨fun g => g.mono (fun t ht => by obtain ⟨x,hx,rfl⟩ := List.mem_map.1 ht; exact .base (List.mem_map.2 ⟨x,(h x).1 hx,rfl⟩)),
     fun g => g.mono (fun t ht => by obtain ⟨x,hx,rfl⟩ := List.mem_map.1 ht; exact .base (List.mem_map.2 ⟨x,(h x).2 hx,rfl⟩))⟩
  simp [this]

theorem WI {N : Nat} {a : Int × List (Int × List Int)} {H0 : List Bool} (ha : AlgW a N) (h0 : H0.length = N * N) : ∃ H,Ze (N : Int) a.2 H0 = some H ∧ ZO H = some (NL (clo N a.2 (mk H0))) := by
  obtain ⟨H,h1,h2,h3⟩ := zah ha h0;have h64 := XG ha.n8;refine ⟨H,h1,?_⟩;rw [zaR (by omega)];congr 2;unfold mk clo;rw [h2];apply List.filter_congr;intro c hc;have := h3 c (by simpa using hc);rw [Bool.eq_iff_iff,this]; simp [mk]

theorem pt_lex {N x y : Nat} (hN : 1 ≤ N) : Zs (pt N x) (pt N y) = decide (x < y) := by
  have h1 := Nat.div_add_mod x N;have h2 := Nat.div_add_mod y N;have h3 := Nat.mod_lt x hN;have h4 := Nat.mod_lt y hN;unfold pt;simp only [Zs];by_cases e : x / N = y / N
  · rw [if_pos e];rw [e] at h1;by_cases e2 : x % N = y % N
    · rw [if_pos e2,show decide (x < y) = false by simp; omega]
    · rw [if_neg e2];congr 1;exact propext ⟨fun h => by omega,fun h => by omega⟩
  · rw [if_neg e];congr 1;apply propext;have key : ∀ {a b r q : Nat},r < N → q < N → a < b → N * a + r < N * b + q := fun {a b r q} hr hq hab => by
      have : N * (a + 1) ≤ N * b := Nat.mul_le_mul_left N hab;rw [Nat.mul_add] at this; omega
    constructor
    · intro h; have := key h3 h4 h; omega
    · intro h;rcases Nat.lt_or_ge (x / N) (y / N) with h' | h'
      · exact h'
      · have := key h4 h3 (show y / N < x / N by omega); omega

theorem vR (N x : Nat) : (pt N x).length = 2 := rfl

def TT (N : Nat) (X : List Nat) : List (List Int) := NLL (X.map (pt N))

theorem wq (N : Nat) (X : List Nat) : (TT N X).length = X.length := by simp [TT]

theorem uu {N : Nat} {X : List Nat} {k : Nat} (h : k < X.length) : idx (TT N X) (k : Int) = some (NL (pt N (ga X k))) := by
  unfold TT;rw [zdo (by simpa using h),List.getElem_map,YT h]

theorem We {N : Nat} (hN : 1 ≤ N) {X : List Nat} (h : X.Pairwise (· < ·)) : Sorted (X.map (pt N)) := by
  unfold Sorted;rw [List.pairwise_map];exact h.imp (fun {a b} h => by rw [pt_lex hN]; simpa using h)

theorem uo {N : Nat} {a : Int × List (Int × List Int)} {X : List Nat} (ha : AlgW a N) (h4 : N ≤ 4) (hX : ∀ x ∈ X,x < N * N) (hXl : X.length ≤ 1000) : ZP (a.1,a.2) 2 (TT N X) = some (TT N (clo N a.2 X),true) := by
  have h16 : N * N ≤ 16 := Nat.mul_le_mul h4 h4;have hN := ha.n1;have hB : ∀ t ∈ X.map (pt N),TupN N 2 t := fun t ht => by
    obtain ⟨x,hx,rfl⟩ := List.mem_map.1 ht;exact Wh (hX x hx)
  obtain ⟨A,e,h1,h2,h3,h4,h5⟩ := zcR ha hB (by simpa using hXl) (k := 2) (by omega);have hm := (Ui a.2).2;have hlen : A.length ≤ N * N := by
    have := yk (M := (List.range (N * N)).map (pt N)) (xB yQ h1) (fun t ht => by
      have htup := (h2 t ht).tup hB;exact List.mem_map.2 ⟨cd N t,by simpa using zcH htup,uy htup⟩)
    simpa using this
  have hcl := h5 (by omega);have hA : A = (clo N a.2 X).map (pt N) := by
    refine XE (le := fun a b => Zs a b = true) (fun x y h h' => ?_) (vb (xB yQ h1) (xB yQ (We hN zby)) fun t => ?_) h1 (We hN zby)
    · have := Yu h h'; rw [yQ] at this; cases this
    · rw [List.mem_map];constructor
      · intro ht;have hg := h2 t ht;have htup := hg.tup hB;exact ⟨cd N t,wF.2 ⟨zcH htup,by rw [uy htup]; exact hg⟩,uy htup⟩
      · rintro ⟨c,hc,rfl⟩;exact (wF.1 hc).2.least h3 hcl
  rw [show (2 : Int) = ((2 : Nat) : Int) from rfl];unfold TT;rw [e,hA,show decide (((clo N a.2 X).map (pt N)).length ≤ xi a.2) = true by rw [← hA]; simp; omega]

set_option linter.unusedVariables false
theorem Vc {N : Nat} {X Y : List Nat} (hN : 1 ≤ N) (hX : X.length ≤ 1000) : YK (TT N X) (TT N Y) = some (ltT X Y) := by
  unfold YK;simp only [wq];rw [show (((X.length : Nat) : Int) != ((Y.length : Nat) : Int)) = !decide (X.length = Y.length) by
    by_cases e : X.length = Y.length <;> simp [e]; omega]
  unfold ltT;by_cases e : X.length = Y.length
  · rw [show decide (X.length = Y.length) = true by simpa using e,bnt,ct0,Bool.true_and,show decide (X.length < Y.length) = false by simp; omega,Bool.false_or];rw [wg (R := Bool) (p := fun j => if ga X j = ga Y j then none else some (decide (ga X j < ga Y j))) (n := X.length) rfl (by omega) (fun j hj => by
      rw [uu hj,obs,uu (by omega),obs,wY (by rw [vR]; omega),obs];by_cases e : ga X j = ga Y j
      · rw [if_pos e,e,show (pt N (ga Y j) == pt N (ga Y j)) = true by simp,bnt,ct0]
      · rw [if_neg e,show (pt N (ga X j) == pt N (ga Y j)) = false by simpa using fun h => e (zcU h),bnf,ct1,obs,obs,zaI (by simp [vR]) (by rw [vR]; omega),obs,pt_lex hN])]
    rw [vT X Y (by omega)];cases (List.range X.length).findSome? (fun j => if ga X j = ga Y j then none else some (decide (ga X j < ga Y j))) <;> rfl
  · rw [show decide (X.length = Y.length) = false by simpa using e,bnf,ct1,Bool.false_and,Bool.or_false,Yi]

theorem zcX {N : Nat} {X Y : List Nat} (hX : X.length ≤ 1000) : xP (TT N X) (TT N Y) = some (X == Y) := by
  unfold xP;simp only [wq];obtain ⟨c,hc,hq,_⟩ := yy (S := Int) (R := Bool) (step := fun s20 =>
  (bif ((decide (s20 < ((X.length : Nat) : Int))) && (decide (s20 < ((Y.length : Nat) : Int)))) then (idx (TT N X) s20).bind fun x32 =>
  (idx (TT N Y) s20).bind fun x36 =>
  (ZN x32 x36).bind fun r41 =>
  (bif (!r41) then some (.rt false) else some (.nx (w64 (s20 + 1)))) else some (.br s20)))
    (fun s => ∃ i : Nat,s = (i : Int) ∧ i ≤ X.length ∧ ∀ j,j < i → ga X j = ga Y j)
    (fun s => 2000 - s.toNat)
    (fun c => (∃ i : Nat,c = .br (i : Int) ∧ (X.length ≤ i ∨ Y.length ≤ i) ∧ ∀ j,j < i → ga X j = ga Y j) ∨ (c = .rt false ∧ X ≠ Y))
    FU 0 ⟨0,rfl,Nat.zero_le _,fun j h => by omega⟩ (by simp [FU]) (by
      rintro s ⟨i,rfl,hi,hp⟩;simp only [Yi];by_cases h : i < X.length ∧ i < Y.length
      · rw [show decide (i < X.length) = true by simpa using h.1,show decide (i < Y.length) = true by simpa using h.2,Bool.and_self,ct1,uu h.1,obs,uu h.2,obs,wY (by rw [vR]; omega),obs];by_cases e : ga X i = ga Y i
        · left;rw [e,show (pt N (ga Y i) == pt N (ga Y i)) = true by simp,bnt,ct0,ZY (by omega)];refine ⟨_,rfl,⟨i + 1,rfl,by omega,fun j hj => ?_⟩,by simp; omega⟩;by_cases e2 : j = i
          · rw [e2]; exact e
          · exact hp j (by omega)
        · right;rw [show (pt N (ga X i) == pt N (ga Y i)) = false by simpa using fun h => e (zcU h),bnf,ct1];exact ⟨_,rfl,by intro s; simp,.inr ⟨rfl,fun h => e (by rw [h])⟩⟩
      · right;rw [show (decide (i < X.length) && decide (i < Y.length)) = false by rw [Bool.and_eq_false_iff]; simp only [decide_eq_false_iff_not]; omega,ct0];exact ⟨_,rfl,by intro s; simp,.inl ⟨i,rfl,by omega,hp⟩⟩)
  rw [hc,obs];rcases hq with ⟨i,rfl,hi,hp⟩ | ⟨rfl,hne⟩
  · rw [zY,wD];congr 1;rw [Bool.eq_iff_iff];simp only [beq_iff_eq];exact ⟨fun h => ga_ext h (fun k hk => hp k (by omega)),fun h => by rw [h]⟩
  · show some false = _;rw [show (X == Y) = false by simpa using hne]

def TTs (N : Nat) (L : List (List Nat)) : List (List (List Int)) := L.map (TT N)

theorem xh (N : Nat) (L : List (List Nat)) : (TTs N L).length = L.length := by simp [TTs]

theorem ua {N : Nat} {L : List (List Nat)} {k : Nat} (h : k < L.length) : idx (TTs N L) (k : Int) = some (TT N L[k]) := by
  rw [yv]; unfold TTs; rw [List.getElem?_map,gge h]; rfl

theorem l18Put_eq {N : Nat} {L : List (List Nat)} {P : List Nat} (hN : 1 ≤ N) (hL : ∀ Q ∈ L,Q.length ≤ 1000) (hl : L.length ≤ 1000000000) : Ya (TTs N L) (TT N P) = some (TTs N (putS ltT L P)) := by
  unfold Ya;obtain ⟨k,h1,h2,h3,h4⟩ := putS_at (lt := ltT) (L := L) P;rw [Ud (R := List (List (List Int))) (F := fun j : Nat => (j : Int)) (s := (0 : Int)) (t := (k : Int)) k (by omega) rfl (fun j hj => by
    have hjl : j < L.length := by omega
    rw [xh,Yi,show decide (j < L.length) = true by simpa using hjl,ct1,ua hjl,obs,Vc hN (hL _ (List.getElem_mem hjl)),obs,h2 j hjl hj,ct1,ZY (by omega)]) (by
    rw [xh,Yi];by_cases hk : k < L.length
    · rw [show decide (k < L.length) = true by simpa using hk,ct1,ua hk,obs,Vc hN (hL _ (List.getElem_mem hk)),obs,h3 hk,ct0]
    · rw [show decide (k < L.length) = false by simpa using hk,ct0])]
  simp only [obs,zY,xh,Yi];have fin : (slc (TTs N L) 0 (k : Int)).bind (fun y74 =>
  (slc (TTs N L) (k : Int) (L.length : Int)).bind fun y77 =>
  (app ([]) y74).bind fun y83 =>
  (app y83 ([TT N P])).bind fun y88 =>
  (app y88 y77).bind fun y91 =>
  some y91) = some (TTs N (L.take k ++ P :: L.drop k)) := by
    have e : (L.length : Int) = ((TTs N L).length : Int) := by rw [xh]
    rw [zcA (by rw [xh]; exact h1),obs,e,zcE (by rw [xh]; exact h1),obs];have el := xh N L;rw [yC (by simp; omega),obs,yC (by simp; omega),obs,yC (by simp; omega),obs];simp [TTs]
  by_cases hk : k < L.length
  · rw [show decide (k < L.length) = true by simpa using hk,ct1,ua hk,obs,zcX (hL _ (List.getElem_mem hk)),obs,obs];rw [h4,dif_pos hk];by_cases e : L[k] = P
    · rw [if_pos e,show (L[k] == P) = true by simpa using e,ct1]
    · rw [if_neg e,show (L[k] == P) = false by simpa using e,ct0,fin]
  · rw [show decide (k < L.length) = false by simpa using hk,ct0,obs,ct0,fin,h4,dif_neg hk]

theorem marks_eq {X : List Nat} {M : Nat} (hX : ∀ x ∈ X,x < M) (hM : M ≤ 100000) : ∃ H,Yz (NL X) (M : Int) = some H ∧ H.length = M ∧ ∀ c,bt H c = decide (c ∈ X) := by
  unfold Yz;rw [we rfl (by omega),obs];have key : ∀ (X : List Nat) (H : List Bool) (i : Int),(∀ x ∈ X,x < H.length) → forR (S := (List Bool)) (R := (List Bool)) (fun _ x17 s14 =>
  (idx s14 x17).bind fun x23 =>
  some (.nx (List.set s14 (Int.toNat x17) true))) i (NL X) H = some (.br (X.foldl (fun H x => H.set x true) H)) := by
    intro X
    induction X with
    | nil => intro H i _; rfl
    | cons x X ih =>
      intro H i hx;rw [VE,XY (s' := H.set x true) (by rw [zbs (hx x (by simp)),obs]; rfl),ih _ _ (fun y hy => by simpa using hx y (by simp [hy]))]; rfl
  rw [key X _ 0 (by simpa using hX),obs,zY];refine ⟨_,rfl,?_,?_⟩
  · have : ∀ (X : List Nat) (H : List Bool),(X.foldl (fun H x => H.set x true) H).length = H.length := by
      intro X; induction X with
      | nil => intro H; rfl
      | cons x X ih => intro H; rw [List.foldl_cons,ih]; simp
    rw [this]; simp
  · intro c;have : ∀ (X : List Nat) (H : List Bool),(∀ x ∈ X,x < H.length) → bt (X.foldl (fun H x => H.set x true) H) c = (decide (c ∈ X) || bt H c) := by
      intro X; induction X with
      | nil => intro H _; simp
      | cons x X ih =>
        intro H hx;rw [List.foldl_cons,ih _ (fun y hy => by simpa using hx y (by simp [hy])),ui (hx x (by simp))];rw [Bool.eq_iff_iff]; simp only [Bool.or_eq_true,decide_eq_true_eq,List.mem_cons];exact ⟨fun h => h.elim (fun h => .inl (.inr h)) (fun h => h.elim (fun h => .inl (.inl h)) .inr),fun h => h.elim (fun h => h.elim (fun h => .inr (.inl h)) .inl) (fun h => .inr (.inr h))⟩
    rw [this X _ (by simpa using hX)];have : bt (List.replicate M false) c = false := by
      unfold bt; rw [List.getD_eq_getElem?_getD,List.getElem?_replicate]; split <;> rfl
    rw [this,Bool.or_false]

theorem hasNot_eq {X : List Nat} {x : Nat} : yY (NL X) (x : Int) = some (!decide (x ∈ X)) := by
  unfold yY;rw [zaA (R := Bool) (p := fun y => if (x : Int) = y then some false else none) (s := ()) 0 (NL X) (fun i y _ => by
    by_cases e : (x : Int) = y
    · rw [if_pos e,show ((x : Int) == y) = true by simpa using e,ct1]
    · rw [if_neg e,show ((x : Int) == y) = false by simpa using e,ct0])]
  by_cases h : x ∈ X
  · have : (NL X).findSome? (fun y => if (x : Int) = y then some false else none) = some false := by
      cases hc : (NL X).findSome? (fun y => if (x : Int) = y then some false else none) with
      | none =>
        rw [List.findSome?_eq_none_iff] at hc;have := hc (x : Int) (List.mem_map.2 ⟨x,h,rfl⟩);simp at this
      | some b =>
        obtain ⟨y,_,hy⟩ := List.exists_of_findSome?_eq_some hc;split at hy
        · exact hy.symm
        · cases hy
    rw [this]; simp [h,after]
  · have : (NL X).findSome? (fun y => if (x : Int) = y then some false else none) = none := by
      rw [List.findSome?_eq_none_iff];intro y hy;obtain ⟨z,hz,rfl⟩ := List.mem_map.1 hy;exact if_neg (fun e => h (by rw [show x = z by omega]; exact hz))
    rw [this]; simp [h,after]

set_option linter.unusedVariables false
noncomputable def nxP (N : Nat) (ops : List (Int × List Int)) (X : List Nat) : List (List Nat) := (List.range (N * N)).map fun y => if y ∈ X then X else clo N ops (X ++ [y])
theorem Vp {N : Nat} {ops : List (Int × List Int)} {X : List Nat} : (nxP N ops X).length = N * N := by simp [nxP]

theorem zbM {N k : Nat} {ops : List (Int × List Int)} {X : List Nat} (h : k < (nxP N ops X).length) : (nxP N ops X)[k] = if k ∈ X then X else clo N ops (X ++ [k]) := by simp [nxP]

theorem zaE {N : Nat} {ops : List (Int × List Int)} {X : List Nat} (h : Reach [clo N ops []] (nxP N ops) X) : ∃ Y,X = clo N ops Y := by
  induction h with
  | init h => exact ⟨[],by simpa using h⟩
  | step _ hy ih =>
    obtain ⟨k,hk,e⟩ := List.mem_iff_getElem.1 hy;rw [zbM hk] at e;split at e
    · rw [← e]; exact ih
    · exact ⟨_,e.symm⟩

theorem Yb {N : Nat} {ops : List (Int × List Int)} {X : List Nat} (h : Reach [clo N ops []] (nxP N ops) X) : (∀ x ∈ X,x < N * N) ∧ X.length ≤ N * N ∧ X.Pairwise (· < ·) := by
  obtain ⟨Y,rfl⟩ := zaE h;exact ⟨clo_lt,zdq,zby⟩

theorem Uc {N : Nat} (h4 : N ≤ 4) : N * N ≤ 16 := Nat.mul_le_mul h4 h4

theorem zcS {N : Nat} {a : Int × List (Int × List Int)} (ha : AlgW a N) (h4 : N ≤ 4) : ∃ c,iter (S := (List (List Int)) × Int × (List (ByteArray × Bool))) (R := (List (Int × (List (List Int)))) × Bool) (fun s724 =>
  (bif (decide (s724.2.1 < (s724.1.length : Int))) then (forC (S := (List (List Int)) × (List (ByteArray × Bool))) (R := (List (Int × (List (List Int)))) × Bool) (fun k846 s844 =>
  (idx s844.1 s724.2.1).bind fun x856 =>
  (yY x856 k846).bind fun r861 =>
  (bif (!r861) then some (.nx (s844.1,s844.2)) else (idx s844.1 s724.2.1).bind fun x863 =>
  (Yz x863 (w64 ((N : Int) * (N : Int)))).bind fun r868 =>
  (idx r868 k846).bind fun x870 =>
  (Ze (N : Int) a.2 (List.set r868 (Int.toNat k846) true)).bind fun r874 =>
  (ZO r874).bind fun r877 =>
  (ym r877).bind fun r880 =>
  (bif (!((mget s844.2 r880).getD false)) then (app s844.1 ([r877])).bind fun y904 =>
  some (y904,mput s844.2 r880 true) else some (s844.1,s844.2)).bind fun s893 =>
  (bif (decide (200 < (s893.1.length : Int))) then some (.rt ([],false)) else some (.nx (s893.1,s893.2))))) 0 (w64 ((N : Int) * (N : Int))) (s724.1,s724.2.2)).bind fun o848 => after o848 (fun r_ => some (.rt r_)) (fun s844 =>
  some (.nx (s844.1,w64 (s724.2.1 + 1),s844.2))) else some (.br (s724.1,s724.2.1,s724.2.2)))) FU ([NL (clo N a.2 [])],0,mput ([]) (kkey (clo N a.2 [])) true) = some c ∧
    ((∃ M i seen,c = .br (NLL M,i,seen) ∧ M.Nodup ∧ (∀ x,Reach [clo N a.2 []] (nxP N a.2) x ↔ x ∈ M) ∧ M.length ≤ 200) ∨ (c = .rt ([],false) ∧ ∃ M : List (List Nat),M.Nodup ∧ (∀ x ∈ M,Reach [clo N a.2 []] (nxP N a.2) x) ∧ 200 < M.length)) := by
  have h16 := Uc h4;have eNN : w64 ((N : Int) * (N : Int)) = ((N * N : Nat) : Int) := yS (by omega);rw [eNN];have hsm : ∀ {X},Reach [clo N a.2 []] (nxP N a.2) X → ∀ x ∈ X,x < 65536 := fun h x hx => by have := (Yb h).1 x hx; omega
  have h0 : Reach [clo N a.2 []] (nxP N a.2) (clo N a.2 []) := .init (by simp);have := yy (S := (List (List Int)) × Int × (List (ByteArray × Bool))) (R := (List (Int × (List (List Int)))) × Bool) (step := fun s724 =>
  (bif (decide (s724.2.1 < (s724.1.length : Int))) then (forC (S := (List (List Int)) × (List (ByteArray × Bool))) (R := (List (Int × (List (List Int)))) × Bool) (fun k846 s844 =>
  (idx s844.1 s724.2.1).bind fun x856 =>
  (yY x856 k846).bind fun r861 =>
  (bif (!r861) then some (.nx (s844.1,s844.2)) else (idx s844.1 s724.2.1).bind fun x863 =>
  (Yz x863 ((N * N : Nat) : Int)).bind fun r868 =>
  (idx r868 k846).bind fun x870 =>
  (Ze (N : Int) a.2 (List.set r868 (Int.toNat k846) true)).bind fun r874 =>
  (ZO r874).bind fun r877 =>
  (ym r877).bind fun r880 =>
  (bif (!((mget s844.2 r880).getD false)) then (app s844.1 ([r877])).bind fun y904 =>
  some (y904,mput s844.2 r880 true) else some (s844.1,s844.2)).bind fun s893 =>
  (bif (decide (200 < (s893.1.length : Int))) then some (.rt ([],false)) else some (.nx (s893.1,s893.2))))) 0 ((N * N : Nat) : Int) (s724.1,s724.2.2)).bind fun o848 => after o848 (fun r_ => some (.rt r_)) (fun s844 =>
  some (.nx (s844.1,w64 (s724.2.1 + 1),s844.2))) else some (.br (s724.1,s724.2.1,s724.2.2))))
    (I := fun s => ∃ M i seen,s = (NLL M,((i : Nat) : Int),seen) ∧ Wl [clo N a.2 []] (nxP N a.2) M i 0 ∧ i ≤ M.length ∧ M.length ≤ 200 ∧ SeenOk seen M) (m := fun s => 201 - s.2.1.toNat)
    (Q := fun c => (∃ M i seen,c = .br (NLL M,i,seen) ∧ M.Nodup ∧ (∀ x,Reach [clo N a.2 []] (nxP N a.2) x ↔ x ∈ M) ∧ M.length ≤ 200) ∨ (c = .rt ([],false) ∧ ∃ M : List (List Nat),M.Nodup ∧ (∀ x ∈ M,Reach [clo N a.2 []] (nxP N a.2) x) ∧ 200 < M.length))
    FU ([NL (clo N a.2 [])],0,mput ([]) (kkey (clo N a.2 [])) true) ⟨[clo N a.2 []],0,_,rfl,.start (by simp),by simp,by simp,fun T hT => by
      rw [zck];by_cases e : T = clo N a.2 []
      · subst e; simp
      · rw [if_neg (fun h' => e ((zcx hT (hsm h0)).1 h'))]; simp [mget,e]⟩ (by show 201 - _ < 4611686018427387904; omega) (fun s hI => by
    obtain ⟨M,i,seen,rfl,hw,hi,hM2,hseen⟩ := hI;simp only [yw,Yi];by_cases c : i < M.length
    case neg =>
      right;refine ⟨_,by rw [show decide (i < M.length) = false by simpa using c,ct0],by intro s'; simp,.inl ⟨M,_,seen,rfl,hw.nd,hw.whole (by omega),hM2⟩⟩
    rw [show decide (i < M.length) = true by simpa using c,ct1];rcases xX (S := (List (List Int)) × (List (ByteArray × Bool))) (R := (List (Int × (List (List Int)))) × Bool) (step := fun k846 s844 =>
  (idx s844.1 (i : Int)).bind fun x856 =>
  (yY x856 k846).bind fun r861 =>
  (bif (!r861) then some (.nx (s844.1,s844.2)) else (idx s844.1 (i : Int)).bind fun x863 =>
  (Yz x863 ((N * N : Nat) : Int)).bind fun r868 =>
  (idx r868 k846).bind fun x870 =>
  (Ze (N : Int) a.2 (List.set r868 (Int.toNat k846) true)).bind fun r874 =>
  (ZO r874).bind fun r877 =>
  (ym r877).bind fun r880 =>
  (bif (!((mget s844.2 r880).getD false)) then (app s844.1 ([r877])).bind fun y904 =>
  some (y904,mput s844.2 r880 true) else some (s844.1,s844.2)).bind fun s893 =>
  (bif (decide (200 < (s893.1.length : Int))) then some (.rt ([],false)) else some (.nx (s893.1,s893.2)))))
      (fun k s => ∃ M seen,s = (NLL M,seen) ∧ Wl [clo N a.2 []] (nxP N a.2) M i k ∧ i < M.length ∧ M.length ≤ 200 ∧ SeenOk seen M) (fun _ => False)
      (fun r => r = ([],false) ∧ ∃ M : List (List Nat),M.Nodup ∧ (∀ x ∈ M,Reach [clo N a.2 []] (nxP N a.2) x) ∧ 200 < M.length) (n := N * N) (hi := ((N * N : Nat) : Int)) (s := (NLL M,seen)) rfl (by omega) ⟨M,seen,rfl,hw,c,hM2,hseen⟩ (fun k s hk hI => by
        obtain ⟨M,seen,rfl,hw,hi,hM2,hseen⟩ := hI;have hMi := Yb (hw.reach _ (List.getElem_mem hi));have hk' : k < (nxP N a.2 M[i]).length := by rw [Vp]; exact hk
        have ej := zbM hk';simp only [zdo hi,obs,hasNot_eq];by_cases hin0 : k ∈ M[i]
        · left;rw [show (!!decide (k ∈ M[i])) = true by simpa using hin0,ct1];rw [if_pos hin0] at ej;exact ⟨_,rfl,M,seen,rfl,hw.old hi hk' (by rw [ej]; exact List.getElem_mem hi),hi,hM2,hseen⟩
        rw [show (!!decide (k ∈ M[i])) = false by simpa using hin0,ct0];rw [if_neg hin0] at ej;obtain ⟨H,hm1,hm2,hm3⟩ := marks_eq (X := M[i]) (M := N * N) hMi.1 (by omega);obtain ⟨H',hc1,hc2⟩ := WI (H0 := H.set k true) ha (by simp [hm2]);have ecl : clo N a.2 (mk (H.set k true)) = clo N a.2 (M[i] ++ [k]) := zaJ (fun x => by
          rw [vU,ui (by omega),hm3];simp only [List.length_set,hm2,Bool.or_eq_true,decide_eq_true_eq,List.mem_append,List.mem_singleton];exact ⟨fun h => h.2.symm,fun h => ⟨h.elim (hMi.1 x) (fun h => by omega),h.symm⟩⟩)
        rw [ecl] at hc2;have hj : Reach [clo N a.2 []] (nxP N a.2) (clo N a.2 (M[i] ++ [k])) := by
          have := Reach.step (hw.reach _ (List.getElem_mem hi)) (List.getElem_mem hk')
          rwa [ej] at this
        have hjs := Yb hj;rw [hm1,obs,zbs (by omega),obs,itn,hc1,obs,hc2,obs,UJ (by omega),obs];rw [hseen _ (hsm hj)];by_cases hin : clo N a.2 (M[i] ++ [k]) ∈ M
        · left;rw [show (!decide (clo N a.2 (M[i] ++ [k]) ∈ M)) = false by simpa using hin,ct0,obs];simp only [yw];rw [show decide ((200 : Int) < (M.length : Int)) = false by simp; omega,ct0];exact ⟨_,rfl,M,seen,rfl,hw.old hi hk' (by rw [ej]; exact hin),hi,hM2,hseen⟩
        · rw [show (!decide (clo N a.2 (M[i] ++ [k]) ∈ M)) = true by simpa using hin,ct1,yC (by simp; omega),obs,obs];have hnew := hw.new hi hk' (by rw [ej]; exact hin);rw [ej] at hnew;have el : (NLL M ++ [NL (clo N a.2 (M[i] ++ [k]))]) = NLL (M ++ [clo N a.2 (M[i] ++ [k])]) := by rw [NLL_app]; rfl
          rw [el];simp only [yw];by_cases h200 : 200 < (M ++ [clo N a.2 (M[i] ++ [k])]).length
          · right; right;rw [show decide ((200 : Int) < ((M ++ [clo N a.2 (M[i] ++ [k])]).length : Int)) = true by simp at h200 ⊢; omega,ct1];exact ⟨_,rfl,rfl,_,hnew.nd,hnew.reach,h200⟩
          · left;rw [show decide ((200 : Int) < ((M ++ [clo N a.2 (M[i] ++ [k])]).length : Int)) = false by simp at h200 ⊢; omega,ct0];exact ⟨_,rfl,_,_,rfl,hnew,by simp; omega,by omega,hseen.add (hsm hj)⟩) with ⟨s',h1,h2 | h2⟩ | ⟨r,h1,h2,h3⟩
    · obtain ⟨M',seen',rfl,hw',hi',hM',hs'⟩ := h2;left;refine ⟨_,by rw [h1]; rfl,⟨M',i + 1,seen',by rw [ZY (by omega)],hw'.next hi' (by simp [Vp]),by omega,hM',hs'⟩,?_⟩;rw [ZY (by omega)];simp only [itn]; omega
    · exact h2.elim
    · right;refine ⟨.rt r,by rw [h1]; rfl,by intro s'; simp,.inr ⟨by rw [h2],h3⟩⟩)
  obtain ⟨c,h1,h2,_⟩ := this;exact ⟨c,h1,h2⟩

set_option linter.unusedVariables false
theorem putT_len {L : List (List Nat)} {P : List Nat} (hs : L.Pairwise fun a b => ltT a b = true) : (putS ltT L P).length = if P ∈ L then L.length else L.length + 1 := by
  by_cases h : P ∈ L
  · rw [if_pos h,zcb vi (fun h h' => UN h h') hs h]
  · rw [if_neg h,Vi h]

structure LnP (N : Nat) (ops : List (Int × List Int)) (out line : List (List Nat)) (i k : Nat) : Prop where
  wl : Wl [clo N ops []] (nxP N ops) line i k
  sorted : out.Pairwise fun a b => ltT a b = true
  perm : ∀ x,x ∈ out ↔ x ∈ line
  len : out.length = line.length

theorem dig_pt {N y : Nat} (hy : y < N * N) : dig N 2 y = pt N y := by
  have h := Wh hy;have e := UA N y;obtain ⟨u,v,e2,hu,hv⟩ := tup2 h;rw [e2] at e ⊢;rw [← e];exact dig2 hu hv

theorem findPt {N : Nat} {X : List Nat} {y : Nat} (hN : 1 ≤ N) (hX : X.Pairwise (· < ·)) (hl : X.length ≤ 1000) : ∃ p,Zi (TT N X) (NL (pt N y)) = some (p,decide (y ∈ X)) := by
  unfold TT;rw [wV (We hN hX) (fun u hu => by obtain ⟨x,_,rfl⟩ := List.mem_map.1 hu; rfl) (by simp; omega) (by rw [vR]; omega)];refine ⟨((VA (X.map (pt N)) (pt N y) : Nat) : Int),?_⟩;congr 2;rw [Bool.eq_iff_iff];simp only [List.contains_iff_mem,decide_eq_true_eq,List.mem_map];exact ⟨fun ⟨x,hx,e⟩ => by rw [← zcU e]; exact hx,fun h => ⟨y,h,rfl⟩⟩

theorem zdg {N : Nat} {a : Int × List (Int × List Int)} (ha : AlgW a N) (h4 : N ≤ 4) : ∃ out line i,iter (S := (List (List (List Int))) × (List (List (List Int))) × Int) (R := (List (List (List Int))) × Bool) (fun s3364 =>
  (bif ((decide (s3364.2.2 < (s3364.2.1.length : Int))) && (decide ((s3364.1.length : Int) ≤ 200))) then (iter (S := (List (List (List Int))) × (List (List (List Int))) × Int) (R := (List (List (List Int))) × Bool) (fun s4482 =>
  (bif ((decide (s4482.2.2 < (w64 ((N : Int) * (N : Int))))) && (decide ((s4482.1.length : Int) ≤ 200))) then (ZD (N : Int) 2 s4482.2.2).bind fun r4504 =>
  (idx s4482.2.1 s3364.2.2).bind fun x4506 =>
  (Zi x4506 r4504).bind fun r4511 =>
  (bif r4511.2 then some (.nx (s4482.1,s4482.2.1,w64 (s4482.2.2 + 1))) else (idx s4482.2.1 s3364.2.2).bind fun x4711 =>
  (app ([]) x4711).bind fun y4719 =>
  (app y4719 ([r4504])).bind fun y4725 =>
  (ZP (a.1,a.2) 2 y4725).bind fun r4729 =>
  (Ya s4482.1 r4729.1).bind fun r4732 =>
  (bif (decide ((s4482.1.length : Int) < (r4732.length : Int))) then (app s4482.2.1 ([r4729.1])).bind fun y4738 =>
  some (.nx (r4732,y4738,w64 (s4482.2.2 + 1))) else some (.nx (s4482.1,s4482.2.1,w64 (s4482.2.2 + 1))))) else some (.br (s4482.1,s4482.2.1,s4482.2.2)))) FU (s3364.1,s3364.2.1,0)).bind fun o4486 => after o4486 (fun r_ => some (.rt r_)) (fun s4482 =>
  some (.nx (s4482.1,s4482.2.1,w64 (s3364.2.2 + 1)))) else some (.br (s3364.1,s3364.2.1,s3364.2.2)))) FU ([TT N (clo N a.2 [])],[TT N (clo N a.2 [])],0) = some (.br (TTs N out,TTs N line,i)) ∧
    out.Nodup ∧ (∀ x ∈ out,Reach [clo N a.2 []] (nxP N a.2) x) ∧ (out.Pairwise fun a b => ltT a b = true) ∧ (out.length ≤ 200 → ∀ x,Reach [clo N a.2 []] (nxP N a.2) x ↔ x ∈ out) := by
  have h16 := Uc h4;have hN := ha.n1;have eNN : w64 ((N : Int) * (N : Int)) = ((N * N : Nat) : Int) := yS (by omega);rw [eNN];have := yy (S := (List (List (List Int))) × (List (List (List Int))) × Int) (R := (List (List (List Int))) × Bool) (step := fun s3364 =>
  (bif ((decide (s3364.2.2 < (s3364.2.1.length : Int))) && (decide ((s3364.1.length : Int) ≤ 200))) then (iter (S := (List (List (List Int))) × (List (List (List Int))) × Int) (R := (List (List (List Int))) × Bool) (fun s4482 =>
  (bif ((decide (s4482.2.2 < ((N * N : Nat) : Int))) && (decide ((s4482.1.length : Int) ≤ 200))) then (ZD (N : Int) 2 s4482.2.2).bind fun r4504 =>
  (idx s4482.2.1 s3364.2.2).bind fun x4506 =>
  (Zi x4506 r4504).bind fun r4511 =>
  (bif r4511.2 then some (.nx (s4482.1,s4482.2.1,w64 (s4482.2.2 + 1))) else (idx s4482.2.1 s3364.2.2).bind fun x4711 =>
  (app ([]) x4711).bind fun y4719 =>
  (app y4719 ([r4504])).bind fun y4725 =>
  (ZP (a.1,a.2) 2 y4725).bind fun r4729 =>
  (Ya s4482.1 r4729.1).bind fun r4732 =>
  (bif (decide ((s4482.1.length : Int) < (r4732.length : Int))) then (app s4482.2.1 ([r4729.1])).bind fun y4738 =>
  some (.nx (r4732,y4738,w64 (s4482.2.2 + 1))) else some (.nx (s4482.1,s4482.2.1,w64 (s4482.2.2 + 1))))) else some (.br (s4482.1,s4482.2.1,s4482.2.2)))) FU (s3364.1,s3364.2.1,0)).bind fun o4486 => after o4486 (fun r_ => some (.rt r_)) (fun s4482 =>
  some (.nx (s4482.1,s4482.2.1,w64 (s3364.2.2 + 1)))) else some (.br (s3364.1,s3364.2.1,s3364.2.2))))
    (I := fun s => ∃ out line i,s = (TTs N out,TTs N line,((i : Nat) : Int)) ∧ (LnP N a.2 out line i 0 ∧ i ≤ line.length ∨ (∃ i' k',LnP N a.2 out line i' k') ∧ 200 < out.length) ∧ out.length ≤ 201 ∧ i ≤ 5001) (m := fun s => 5002 - s.2.2.toNat)
    (Q := fun c => ∃ out line i,c = .br (TTs N out,TTs N line,i) ∧ out.Nodup ∧ (∀ x ∈ out,Reach [clo N a.2 []] (nxP N a.2) x) ∧ (out.Pairwise fun a b => ltT a b = true) ∧ (out.length ≤ 200 → ∀ x,Reach [clo N a.2 []] (nxP N a.2) x ↔ x ∈ out))
    FU ([TT N (clo N a.2 [])],[TT N (clo N a.2 [])],0) ⟨[clo N a.2 []],[clo N a.2 []],0,rfl,.inl ⟨⟨.start (by simp),by simp,by simp,rfl⟩,by simp⟩,by simp,by omega⟩ (by show 5002 - _ < 4611686018427387904; omega) (fun s hI => by
    obtain ⟨out,line,i,rfl,hd,hml,hi5⟩ := hI;simp only [xh];rw [show (200 : Int) = ((200 : Nat) : Int) from rfl];by_cases hmo : 200 < out.length
    · right;obtain ⟨i',k',hn⟩ : ∃ i' k',LnP N a.2 out line i' k' := by
        rcases hd with ⟨h,_⟩ | ⟨h,_⟩
        · exact ⟨_,_,h⟩
        · exact h
      refine ⟨_,by rw [show decide ((out.length : Int) ≤ ((200 : Nat) : Int)) = false by rw [wb]; simpa using hmo,Bool.and_false,ct0],by intro s'; simp,out,line,_,rfl,xB vi hn.sorted,fun x hx => hn.wl.reach x ((hn.perm x).1 hx),hn.sorted,fun h => by omega⟩
    obtain ⟨hn,hil⟩ : LnP N a.2 out line i 0 ∧ i ≤ line.length := by
      rcases hd with h | ⟨_,h⟩
      · exact h
      · exact absurd h hmo
    have hll := hn.len;by_cases c : i < line.length
    case neg =>
      right;refine ⟨_,by rw [show decide ((i : Int) < (line.length : Int)) = false by rw [Yi]; simpa using c,Bool.false_and,ct0],by intro s'; simp,out,line,_,rfl,xB vi hn.sorted,fun x hx => hn.wl.reach x ((hn.perm x).1 hx),hn.sorted,fun _ x => (hn.wl.whole (by omega) x).trans (hn.perm x).symm⟩
    left;rw [show decide ((i : Int) < (line.length : Int)) = true by rw [Yi]; simpa using c,show decide ((out.length : Int) ≤ ((200 : Nat) : Int)) = true by rw [wb]; simp; omega,Bool.and_true,ct1];obtain ⟨c',h1,⟨out',line',k',rfl,hln,hil',hk',hml',hend⟩,_⟩ := yy (S := (List (List (List Int))) × (List (List (List Int))) × Int) (R := (List (List (List Int))) × Bool) (step := fun s4482 =>
  (bif ((decide (s4482.2.2 < ((N * N : Nat) : Int))) && (decide ((s4482.1.length : Int) ≤ ((200 : Nat) : Int)))) then (ZD (N : Int) 2 s4482.2.2).bind fun r4504 =>
  (idx s4482.2.1 (i : Int)).bind fun x4506 =>
  (Zi x4506 r4504).bind fun r4511 =>
  (bif r4511.2 then some (.nx (s4482.1,s4482.2.1,w64 (s4482.2.2 + 1))) else (idx s4482.2.1 (i : Int)).bind fun x4711 =>
  (app ([]) x4711).bind fun y4719 =>
  (app y4719 ([r4504])).bind fun y4725 =>
  (ZP (a.1,a.2) 2 y4725).bind fun r4729 =>
  (Ya s4482.1 r4729.1).bind fun r4732 =>
  (bif (decide ((s4482.1.length : Int) < (r4732.length : Int))) then (app s4482.2.1 ([r4729.1])).bind fun y4738 =>
  some (.nx (r4732,y4738,w64 (s4482.2.2 + 1))) else some (.nx (s4482.1,s4482.2.1,w64 (s4482.2.2 + 1))))) else some (.br (s4482.1,s4482.2.1,s4482.2.2))))
      (I := fun s => ∃ out line k,s = (TTs N out,TTs N line,((k : Nat) : Int)) ∧ LnP N a.2 out line i k ∧ i < line.length ∧ k ≤ N * N ∧ out.length ≤ 201) (m := fun s => 65 - s.2.2.toNat)
      (Q := fun c => ∃ out line k,c = .br (TTs N out,TTs N line,((k : Nat) : Int)) ∧ LnP N a.2 out line i k ∧ i < line.length ∧ k ≤ N * N ∧ out.length ≤ 201 ∧ (k = N * N ∨ 200 < out.length))
      FU (TTs N out,TTs N line,0) ⟨out,line,0,rfl,hn,c,by omega,hml⟩ (by show 65 - _ < 4611686018427387904; omega) (fun s hI => by
        obtain ⟨out,line,k,rfl,hn,hi,hkl,hml⟩ := hI;simp only [xh,Yi,wb];by_cases e : k < N * N ∧ out.length ≤ 200
        case neg =>
          right;refine ⟨_,by rw [show (decide (k < N * N) && decide (out.length ≤ 200)) = false by rw [Bool.and_eq_false_iff]; simp only [decide_eq_false_iff_not]; omega,ct0],by intro s'; simp,out,line,k,rfl,hn,hi,hkl,hml,by omega⟩
        obtain ⟨hk,hmo⟩ := e;left;rw [show (decide (k < N * N) && decide (out.length ≤ 200)) = true by simp [hk,hmo],ct1];have hMi := Yb (hn.wl.reach _ (List.getElem_mem hi));have hk' : k < (nxP N a.2 line[i]).length := by rw [Vp]; exact hk
        have ej := zbM hk';have hol : ∀ Q ∈ out,Q.length ≤ 1000 := fun Q hQ => by have := (Yb (hn.wl.reach _ ((hn.perm Q).1 hQ))).2.1; omega
        have hll := hn.len;obtain ⟨p,hf⟩ := findPt (y := k) hN hMi.2.2 (by omega);have ea : ZD (N : Int) 2 (k : Int) = some (NL (pt N k)) := by
          rw [show (2 : Int) = ((2 : Nat) : Int) from rfl,l2ArgsN (by omega) hN (by omega),dig_pt hk]
        simp only [ea,obs,ua hi,hf];rw [ZY (by omega)];by_cases hin0 : k ∈ line[i]
        · rw [show decide (k ∈ line[i]) = true by simpa using hin0,ct1];rw [if_pos hin0] at ej;refine ⟨_,rfl,⟨out,line,k + 1,rfl,⟨hn.wl.old hi hk' (by rw [ej]; exact List.getElem_mem hi),hn.sorted,hn.perm,hn.len⟩,hi,by omega,hml⟩,?_⟩;simp only [itn]; omega
        rw [show decide (k ∈ line[i]) = false by simpa using hin0,ct0];rw [if_neg hin0] at ej;have hTl := wq N line[i];rw [yC (by simp; omega),obs,List.nil_append,yC (by simp; omega),obs];rw [show TT N line[i] ++ [NL (pt N k)] = TT N (line[i] ++ [k]) by simp [TT,NLL]];rw [uo ha h4 (fun x hx => by
          rcases List.mem_append.1 hx with h | h
          · exact hMi.1 x h
          · simp at h; omega) (by simp; omega),obs]
        rw [l18Put_eq hN hol (by omega),obs];simp only [xh,putT_len hn.sorted];by_cases hin : clo N a.2 (line[i] ++ [k]) ∈ out
        · rw [if_pos hin,show decide (out.length < out.length) = false by simp,ct0];refine ⟨_,rfl,⟨out,line,k + 1,rfl,⟨hn.wl.old hi hk' (by rw [ej]; exact (hn.perm _).1 hin),hn.sorted,hn.perm,hn.len⟩,hi,by omega,hml⟩,?_⟩;simp only [itn]; omega
        · rw [if_neg hin,show decide (out.length < out.length + 1) = true by simp,ct1,yC (by rw [xh]; simp; omega),obs];have hnew := hn.wl.new hi hk' (by rw [ej]; exact fun h => hin ((hn.perm _).2 h));rw [ej] at hnew;refine ⟨_,rfl,⟨putS ltT out (clo N a.2 (line[i] ++ [k])),line ++ [clo N a.2 (line[i] ++ [k])],k + 1,by simp [TTs],⟨hnew,zcp (lt := ltT) UN zbK hn.sorted _,fun x => by rw [Vq,hn.perm]; simp,by rw [Vi hin]; simp; omega⟩,by simp; omega,by omega,by rw [Vi hin]; omega⟩,?_⟩;simp only [itn]; omega)
    refine ⟨_,by rw [h1]; rfl,⟨out',line',i + 1,by rw [ZY (by omega)],?_,hml',by omega⟩,?_⟩
    · rcases hend with e | e
      · subst e;exact .inl ⟨⟨hln.wl.next hil' (by simp [Vp]),hln.sorted,hln.perm,hln.len⟩,by omega⟩
      · exact .inr ⟨⟨_,_,hln⟩,e⟩
    · rw [ZY (by omega)];simp only [itn]; omega)
  obtain ⟨c,h1,⟨out,line,i,rfl,h2⟩,_⟩ := this;exact ⟨out,line,i,h1,h2⟩

set_option linter.unusedVariables false
abbrev RelI := Int × List (List Int)

structure PR (N : Nat) (ops : List (Int × List Int)) (S : List (List Nat)) : Prop where
  sorted : S.Pairwise fun a b => ltT a b = true
  l200 : S.length ≤ 200
  all : ∀ X,Reach [clo N ops []] (nxP N ops) X ↔ X ∈ S

theorem PR.small {N : Nat} {ops : List (Int × List Int)} {S : List (List Nat)} (h : PR N ops S) {X : List Nat} (hX : X ∈ S) : (∀ x ∈ X,x < N * N) ∧ X.length ≤ N * N ∧ X.Pairwise (· < ·) := Yb ((h.all X).2 hX)

def relT (N : Nat) (X : List Nat) : RelI := (2,TT N X)

theorem zcN {R : Type} {N : Nat} {X : List Nat} (hN : 1 ≤ N) (h8 : N ≤ 8) (hX : ∀ x ∈ X,x < N * N) (hl : X.length ≤ 1000) : forR (S := (List (List Int))) (R := R) (fun _ x1019 s1016 =>
  (nz (N : Int)).bind fun u1028 =>
  (nz (N : Int)).bind fun u1029 =>
  (app s1016 ([[w64 (Int.tdiv x1019 (N : Int)),Int.tmod x1019 (N : Int)]])).bind fun y1035 =>
  some (.nx y1035)) 0 (NL X) ([]) = some (.br (TT N X)) := by
  have h64 := XG h8;have key : ∀ (X pre : List Nat) (i : Int),(pre ++ X).length ≤ 1000 → (∀ x ∈ X,x < N * N) → forR (S := (List (List Int))) (R := R) (fun _ x1019 s1016 =>
  (nz (N : Int)).bind fun u1028 =>
  (nz (N : Int)).bind fun u1029 =>
  (app s1016 ([[w64 (Int.tdiv x1019 (N : Int)),Int.tmod x1019 (N : Int)]])).bind fun y1035 =>
  some (.nx y1035)) i (NL X) (TT N pre) = some (.br (TT N (pre ++ X))) := by
    intro X
    induction X with
    | nil => intro pre i _ _; rw [lan]; rfl
    | cons x X ih =>
      intro pre i hl hx;have hxl := hx x (by simp);have hTl := wq N pre;rw [VE,XY (s' := TT N (pre ++ [x])) (by
        rw [zcK hN,obs,obs,Vm (by omega),show Int.tmod (x : Int) (N : Int) = ((x % N : Nat) : Int) from rfl,yC (by simp at hl ⊢; omega)];simp [TT,NLL,pt,NL]),ih (pre ++ [x]) (i + 1) (by simp at hl ⊢; omega) (fun y hy => hx y (by simp [hy]))]
      simp
  have := key X [] 0 (by simpa using hl) hX;rw [List.nil_append] at this;exact this

set_option linter.unusedVariables false
def isoB (N : Nat) (X : List Nat) : Bool := ((List.range X.length).all fun k => (List.range k).all fun j => !(ga X k / N == ga X j / N) && !(ga X k % N == ga X j % N)) && decide (0 < X.length)

theorem pt0 (N c : Nat) : idx (NL (pt N c)) 0 = some ((c / N : Nat) : Int) := rfl

theorem pt1 (N c : Nat) : idx (NL (pt N c)) 1 = some ((c % N : Nat) : Int) := rfl

theorem l18Iso_eq {N : Nat} {X : List Nat} (hl : X.length ≤ 1000) : xH (TT N X) = some (isoB N X) := by
  unfold xH;rw [Yq (fun k => (List.range k).all fun j => !(ga X k / N == ga X j / N) && !(ga X k % N == ga X j % N)) false (s := ()) (n := X.length) (by rw [wq]) (by omega) (fun k hk => by
    rw [Yq (fun j => !(ga X k / N == ga X j / N) && !(ga X k % N == ga X j % N)) false (s := ()) (n := k) rfl (by omega) (fun j hj => by
      simp only [uu hk,uu (show j < X.length by omega),obs,pt0,pt1,wD];cases (ga X k / N == ga X j / N) <;> cases (ga X k % N == ga X j % N) <;> rfl)]
    cases (List.range k).all fun j => !(ga X k / N == ga X j / N) && !(ga X k % N == ga X j % N) <;> rfl)]
  unfold isoB;rw [wq];cases (List.range X.length).all fun k => (List.range k).all fun j => !(ga X k / N == ga X j / N) && !(ga X k % N == ga X j % N) with
  | true => simp [after]
  | false => rfl

set_option linter.unusedVariables false
theorem relN_pt {N : Nat} {X : List Nat} (hN : 1 ≤ N) (h : ∀ x ∈ X,x < N * N) (ha : X.Pairwise (· < ·)) : RelN N 2 (2,TT N X) (X.map (pt N)) := by
  refine ⟨rfl,by omega,by omega,⟨We hN ha,fun u hu => ?_⟩,fun t ht => ?_⟩
  · obtain ⟨x,_,rfl⟩ := List.mem_map.1 hu; rfl
  · obtain ⟨x,hx,rfl⟩ := List.mem_map.1 ht;exact (Wh (h x hx)).2

theorem UM {α β S R : Type} {step : Int → β → S → Option (Ctl S R)} (f : α → β) : ∀ (l : List α) (i : Int) (s : S),forR step i (l.map f) s = forR (fun i x s => step i (f x) s) i l s
  | [],_,_ => rfl
  | x :: l,i,s => by
    rw [List.map_cons];unfold forR;cases hs : step i (f x) s with
    | none => rfl
    | some c => cases c with
      | nx s' => exact UM f l _ _
      | br s' => rfl
      | rt r => rfl

set_option linter.unusedVariables false
def yV (N K : Nat) (T X : List Nat) : Bool := (List.range (X.length ^ K)).all fun i => decide (cdA N T X (dig X.length K i) ∈ X)

theorem vN {N K : Nat} {T X : List Nat} : yV N K T X = true ↔ ∀ i,i < X.length ^ K → cdA N T X (dig X.length K i) ∈ X := by
  unfold yV; simp

theorem pts_mem {N : Nat} {X t : List Nat} (h : TupN N 2 t) : t ∈ X.map (pt N) ↔ cd N t ∈ X := by
  rw [List.mem_map];constructor
  · rintro ⟨c,hc,rfl⟩; rw [UA]; exact hc
  · intro hc; exact ⟨_,hc,uy h⟩

set_option linter.unusedVariables false
theorem zdc (B : Int) : ZC [] B = some ([],false) := by
  unfold ZC;rw [Vs (by simp),obs];rw [show FU = FU - 1 + 1 from rfl,Xo (o := some (.br (-1,[]))) rfl (by intro s; simp)];rfl

theorem zdh {B K m : Nat} (hB : 1 ≤ B ∨ K = 0) (hBl : B ≤ 4294967296) (hK : K ≤ 100) (hm : m < B ^ K) : ZC (NL (dig B K m)) (B : Int) = some (NL (dig B K (if m + 1 < B ^ K then m + 1 else 0)),decide (m + 1 < B ^ K)) := by
  rcases hB with h | h
  · exact zaz h hBl hK hm
  · subst h;rw [show dig B 0 m = [] from rfl,NL_nil,zdc];simp at hm;simp [hm,dig]

theorem zbb {N K : Nat} {T X ds : List Nat} {f : Int × List Int} (hN : 1 ≤ N) (h8 : N ≤ 8) (ho : OpN N f K T) (hds : ds.length = K) (hX : ∀ x ∈ X,x < N * N) (hx : ∀ x ∈ ds,x < X.length) : Yd (N : Int) (f.1,f.2) (NLL (ds.map fun x => pt N (ga X x))) 2 = some (NL (apT N T (ds.map fun x => pt N (ga X x)) 2)) := by
  unfold Yd;have ha : AlgW ((N : Int),[f]) N := ⟨rfl,hN,h8,by simp,fun g hg => by simp at hg; subst hg; exact ⟨K,T,ho⟩⟩;have := Vb (j := 0) (k := 2) (ts := ds.map fun x => pt N (ga X x)) ha (by simp) (by simpa using ho) (by simp [hds]) (fun t ht => by obtain ⟨x,_,rfl⟩ := List.mem_map.1 ht; rfl) (fun t ht => by
    obtain ⟨x,h,rfl⟩ := List.mem_map.1 ht;exact (Wh (hX _ (yp (hx x h)))).2) (by omega)
  have this : ZA ((N : Int),[(f.1,f.2)]) 0 (NLL (ds.map fun x => pt N (ga X x))) 2 = _ := this;rw [this]; rfl

theorem Uw {N K : Nat} {T X : List Nat} {step : List Int × Bool → Option (Ctl (List Int × Bool) (List Int × List Int × Bool))}
    (h1 : ∀ x,step (x,false) = some (.br (x,false)))
    (h2 : ∀ m,m < X.length ^ K → (cdA N T X (dig X.length K m) ∈ X → step (NL (dig X.length K m),true) = some (.nx (NL (dig X.length K (if m + 1 < X.length ^ K then m + 1 else 0)),decide (m + 1 < X.length ^ K)))) ∧ (cdA N T X (dig X.length K m) ∉ X → ∃ p q,step (NL (dig X.length K m),true) = some (.rt (p,q,true)))) :
    ∀ (n m fu : Nat),m + n = X.length ^ K → n < fu → (∀ j,j < m → cdA N T X (dig X.length K j) ∈ X) →
    ∃ c,iter step fu (NL (dig X.length K (if m < X.length ^ K then m else 0)),decide (m < X.length ^ K)) = some c ∧ ((∃ s,c = .br s ∧ yV N K T X = true) ∨ (∃ p q,c = .rt (p,q,true) ∧ yV N K T X = false))
  | 0,m,fu,e,hf,hp => by
    obtain ⟨fu,rfl⟩ : ∃ k,fu = k + 1 := ⟨fu - 1,by omega⟩;rw [show decide (m < X.length ^ K) = false by simp; omega,Xo (h1 _) (by intro s; simp)];exact ⟨_,rfl,.inl ⟨_,rfl,vN.2 fun j hj => hp j (by omega)⟩⟩
  | n + 1,m,fu,e,hf,hp => by
    obtain ⟨fu,rfl⟩ : ∃ k,fu = k + 1 := ⟨fu - 1,by omega⟩;have hm : m < X.length ^ K := by omega
    rw [if_pos hm,show decide (m < X.length ^ K) = true by simpa using hm];by_cases hin : cdA N T X (dig X.length K m) ∈ X
    · rw [zbJ ((h2 m hm).1 hin)];exact Uw h1 h2 n (m + 1) fu (by omega) (by omega) (fun j hj => by
        by_cases e : j = m
        · rw [e]; exact hin
        · exact hp j (by omega))
    · obtain ⟨p,q,h⟩ := (h2 m hm).2 hin;rw [Xo h (by intro s; simp)];refine ⟨_,rfl,.inr ⟨p,q,rfl,?_⟩⟩;rw [← Bool.not_eq_true,vN];exact fun h => hin (h m hm)

theorem zcs {N K : Nat} {T X : List Nat} {f : Int × List Int} (hN : 1 ≤ N) (h8 : N ≤ 8) (ho : OpN N f K T) (hX : ∀ x ∈ X,x < N * N) (ha : X.Pairwise (· < ·)) (hl : X.length ≤ 64) : ∃ p q,Yo (N : Int) (f.1,f.2) (2,TT N X) = some (p,q,!yV N K T X) := by
  have h64 := XG h8;have hK := ho.k3;have hP : X.length ^ K ≤ 64 ^ 3 := Nat.le_trans (Nat.pow_le_pow_left hl K) (Nat.pow_le_pow_right (by omega) hK);have hf1 : f.1 = (K : Int) := by rw [ho.eq]
  have hR := (relN_pt hN hX ha).rel;unfold Yo;have e0 : (bif (f.1 == 0) then (mks f.1 (0 : Int)).bind fun y29 =>
  some (y29,true) else (mks f.1 (0 : Int)).bind fun y32 =>
  some (y32,(decide (0 < ((TT N X).length : Int))))) = some (NL (dig X.length K (if 0 < X.length ^ K then 0 else 0)),decide (0 < X.length ^ K)) := by
    have em : mks f.1 (0 : Int) = some (NL (dig X.length K (if 0 < X.length ^ K then 0 else 0))) := by
      rw [we hf1 (by omega),show (if 0 < X.length ^ K then 0 else 0) = 0 by simp,Vf]; simp [NL]
    rw [em,hf1];by_cases hK0 : K = 0
    · subst hK0; simp
    · rw [show (((K : Nat) : Int) == 0) = false by simp; omega,ct0,obs,wq];congr 2;rw [decide_eq_decide];constructor
      · intro h; exact Nat.pow_pos (by omega)
      · intro h;rcases Nat.eq_zero_or_pos X.length with e | e
        · rw [e,Nat.zero_pow (by omega)] at h; omega
        · omega
  simp only [e0,obs];have := Uw (N := N) (K := K) (T := T) (X := X) (step := fun s87 =>
  (bif s87.2 then (yN (TT N X) s87.1).bind fun r111 =>
  (Yd (N : Int) (f.1,f.2) r111 2).bind fun r114 =>
  (YC (2,TT N X) r114).bind fun r117 =>
  (bif (!r117) then some (.rt (s87.1,r114,true)) else (ZC s87.1 ((TT N X).length : Int)).bind fun r121 =>
  some (.nx (r121.1,r121.2))) else some (.br (s87.1,s87.2)))) (fun x => rfl) (fun m hm => by
    have hL : 1 ≤ X.length ∨ K = 0 := by
      rcases Nat.eq_zero_or_pos K with e | e
      · exact .inr e
      · rcases Nat.eq_zero_or_pos X.length with e2 | e2
        · rw [e2,Nat.zero_pow e] at hm; omega
        · exact .inl e2
    have hdl : ∀ x ∈ dig X.length K m,x < X.length := fun x hx => by
      rcases hL with h | h
      · exact wO h K m x hx
      · subst h; simp [dig] at hx
    have htup := zbl ho (Yt X.length K m) hX hdl;have ech : yN (TT N X) (NL (dig X.length K m)) = some (NLL ((dig X.length K m).map fun x => pt N (ga X x))) := by
      unfold TT;rw [zce (by simp; omega) (by simpa using hdl)];congr 2;apply List.map_congr_left;intro x hx;have := hdl x hx;rw [Yf (by simpa using this),List.getElem_map,YT this]
    have eh : YC (2,TT N X) (NL (apT N T ((dig X.length K m).map fun x => pt N (ga X x)) 2)) = some ((X.map (pt N)).contains (apT N T ((dig X.length K m).map fun x => pt N (ga X x)) 2)) := l13Has_eq (k := 2) hR (by simp; omega) (by omega);simp only [ct1,ech,obs,zbb hN h8 ho (Yt X.length K m) hX hdl,eh,wq,zdh hL (by omega) (by omega) hm];constructor
    · intro hin;rw [show (X.map (pt N)).contains (apT N T ((dig X.length K m).map fun x => pt N (ga X x)) 2) = true by rw [List.contains_iff_mem]; exact (pts_mem htup).2 hin]; rfl
    · intro hin;rw [show (X.map (pt N)).contains (apT N T ((dig X.length K m).map fun x => pt N (ga X x)) 2) = false by rw [← Bool.not_eq_true,List.contains_iff_mem]; exact fun h => hin ((pts_mem htup).1 h)];exact ⟨_,_,rfl⟩) (X.length ^ K) 0 FU (by omega) (by unfold FU; omega) (fun j h => by omega)
  obtain ⟨c,hc,hq⟩ := this;rcases hq with ⟨s,rfl,hk⟩ | ⟨p,q,rfl,hk⟩
  · exact ⟨[],[],by rw [hc,hk]; rfl⟩
  · exact ⟨p,q,by rw [hc,hk]; rfl⟩

set_option linter.unusedVariables false
theorem zbU {N K : Nat} {T X : List Nat} {f : Int × List Int} (hN : 1 ≤ N) (h8 : N ≤ 8) (ho : OpN N f K T) (hX : ∀ x ∈ X,x < N * N) (ha : X.Pairwise (· < ·)) (hl : X.length ≤ 64) : Yp (N : Int) (f.1,f.2) (2,TT N X) = some (yV N K T X) := by
  unfold Yp;obtain ⟨p,q,e⟩ := zcs hN h8 ho hX ha hl;have e : Yo (N : Int) ((f.1,f.2).1,(f.1,f.2).2) ((2,TT N X).1,(2,TT N X).2) = some (p,q,!yV N K T X) := e;rw [e,obs,Bool.not_not]

theorem zbI {N K : Nat} {T : List Nat} {S : List (List Nat)} {f : Int × List Int} (hN : 1 ≤ N) (h8 : N ≤ 8) (ho : OpN N f K T) (hS : ∀ X ∈ S,(∀ x ∈ X,x < N * N) ∧ X.Pairwise (· < ·) ∧ X.length ≤ 64) (hl : S.length ≤ 1000) : yg (N : Int) (TTs N S) (f.1,f.2) = some (match (List.range S.length).find? (fun j => !yV N K T (gl S j)) with | none => -1 | some j => (j : Int)) := by
  unfold yg;rw [wg (R := Int) (p := fun j => if yV N K T (gl S j) = true then none else some (j : Int)) (n := S.length) (by rw [xh]) (by omega) (fun j hj => by
    have hX := hS _ (xm hj);have ek : Yp (N : Int) ((f.1,f.2).1,(f.1,f.2).2) (2,TT N (gl S j)) = some (yV N K T (gl S j)) := zbU hN h8 ho hX.1 hX.2.1 hX.2.2;rw [ua hj,obs,(Yf hj).symm,ek,obs];cases yV N K T (gl S j) <;> rfl)]
  have : ∀ (l : List Nat),l.findSome? (fun j => if yV N K T (gl S j) = true then none else some (j : Int)) = (l.find? (fun j => !yV N K T (gl S j))).map fun j => (j : Int) := by
    intro l
    induction l with
    | nil => rfl
    | cons j l ih =>
      rw [List.findSome?_cons,List.find?_cons];cases yV N K T (gl S j) with
      | true => simpa using ih
      | false => rfl
  rw [this];cases (List.range S.length).find? (fun j => !yV N K T (gl S j)) <;> rfl

theorem PR.rows {N : Nat} {ops : List (Int × List Int)} {S : List (List Nat)} (h : PR N ops S) (h4 : N ≤ 4) : ∀ X ∈ S,(∀ x ∈ X,x < N * N) ∧ X.Pairwise (· < ·) ∧ X.length ≤ 64 := fun X hX => by
  have h16 := Uc h4;have := h.small hX; exact ⟨this.1,this.2.2,by omega⟩

def hd? : List (List Nat) → Option (List Int)
  | [] => none
  | x :: _ => some (NL x)

def steps (l : List Int) : Bool := (List.range (l.length - 1)).all fun j : Nat => decide (gi l (j : Int) < gi l ((j + 1 : Nat) : Int))

def cmT (N S : Nat) (T : List Nat) (L : List (List Nat)) (ds : List Nat) : List Nat := (List.range S).map (cmp N T (ds.map (gl L)))

def Tbl (N S : Nat) (L : List (List Nat)) : Prop := ∀ t ∈ L,t.length = S ∧ ∀ x ∈ t,x < N

theorem zbg {N S K : Nat} {f : Int × List Int} {T : List Nat} (ho : OpN N f K T) {L : List (List Nat)} (hL : Tbl N S L) {ds : List Nat} (hl : ds.length = K) (hd : ∀ d ∈ ds,d < L.length) : (cmT N S T L ds).length = S ∧ ∀ x ∈ cmT N S T L ds,x < N := by
  refine ⟨by simp [cmT],fun x hx => ?_⟩;obtain ⟨i,hi,rfl⟩ := List.mem_map.1 hx;rw [List.mem_range] at hi;unfold cmp;refine ho.lt _ (yp ?_);rw [ho.len];refine Xe (fun y hy => ?_) (by simpa using hl);obtain ⟨t,ht,rfl⟩ := List.mem_map.1 hy;obtain ⟨d,hdd,rfl⟩ := List.mem_map.1 ht;have := hL _ (xm (hd d hdd));exact this.2 _ (yp (by rw [this.1]; exact hi))

theorem place_mem (L : List (List Nat)) (t : List Nat) (hL : L.length ≤ 100000) (hx : ∀ u ∈ L,u.length ≤ 100000) : ∃ r,ZM (NLL L) (NL t) = some r ∧ decide (0 ≤ r) = decide (t ∈ L) := by
  unfold ZM;have hh := wg (R := Int) (S := Unit) (s := ()) (step := fun k12 s10 =>
  (idx (NLL L) k12).bind fun x16 =>
  (ZN x16 (NL t)).bind fun r21 =>
  (bif r21 then some (.rt k12) else some (.nx ()))) (fun j => if gl L j == t then some (j : Int) else none) (n := L.length) (hi := ((NLL L).length : Int)) (by rw [yw]) (by omega) (fun j hj => by
    rw [xA hj,obs,wY (by have := hx _ (xm hj); omega),obs];cases (gl L j == t) <;> rfl)
  rw [hh];cases hf : (List.range L.length).findSome? (fun j => if gl L j == t then some (j : Int) else none) with
  | none =>
    refine ⟨-1,rfl,?_⟩;rw [List.findSome?_eq_none_iff] at hf;rw [show decide ((0 : Int) ≤ -1) = false from rfl];symm;rw [decide_eq_false_iff_not];intro hm;obtain ⟨i,hi,e⟩ := List.mem_iff_getElem.1 hm;have := hf i (by simpa using hi);rw [Yf hi,e] at this;simp at this
  | some r =>
    refine ⟨r,rfl,?_⟩;obtain ⟨j,hj,hr⟩ := List.exists_of_findSome?_eq_some hf;rw [List.mem_range] at hj;split at hr
    · rename_i he;cases hr;rw [show decide ((0 : Int) ≤ (j : Int)) = true from decide_eq_true (by omega)];symm;rw [decide_eq_true_eq,← beq_iff_eq.1 he];exact xm hj
    · cases hr

abbrev Stp := List (Int × List Int)

set_option linter.unusedVariables false

theorem Vt {R : Type} {N k S : Nat} (hN : 1 ≤ N) (hk : k < S) : ∀ (A : List (List Nat)) (s : Nat) (i : Int),(∀ t ∈ A,t.length = S ∧ ∀ x ∈ t,x < N) → (s + 1) * N ^ A.length ≤ 9223372036854775807 →
    forR (S := Int) (R := R) (fun _ x67 s63 =>
  (idx x67 (k : Int)).bind fun x73 =>
  some (.nx (w64 ((w64 (s63 * (N : Int))) + x73)))) i (NLL A) (s : Int) = some (.br ((ix N s (A.map fun t => ga t k) : Nat) : Int))
  | [],s,i,_,_ => rfl
  | t :: A,s,i,h,hb => by
    obtain ⟨htl,htx⟩ := h t (by simp);have hx : ga t k < N := htx _ (yp (by omega));have hp : 1 ≤ N ^ A.length := Nat.pow_pos (by omega);rw [List.length_cons,Nat.pow_succ,Nat.mul_comm (N ^ A.length),← Nat.mul_assoc] at hb;have h1 : (s * N + ga t k + 1) * N ^ A.length ≤ (s + 1) * N * N ^ A.length := by
      apply Nat.mul_le_mul_right; rw [Nat.add_mul,Nat.one_mul]; omega
    have h2 : s * N + ga t k + 1 ≤ (s * N + ga t k + 1) * N ^ A.length := Nat.le_mul_of_pos_right _ hp;rw [NLL_cons,XY (s' := ((s * N + ga t k : Nat) : Int)) (by rw [YN (by omega),obs,yS (by omega),XC (by omega)])];exact Vt hN hk A (s * N + ga t k) (i + 1) (fun y hy => h y (by simp [hy])) (by omega)

theorem ul {N K S : Nat} {T : List Nat} {tabs : List (List Nat)} {k : Int} (hN : 1 ≤ N) (h8 : N ≤ 8) (hK : K ≤ 3) (hT : T.length = N ^ K) (ht : tabs.length = K) (hl : ∀ t ∈ tabs,t.length = S ∧ ∀ x ∈ t,x < N) (hS : S ≤ 4294967296) :
    ZQ (N : Int) (k,NL T) (NLL tabs) (S : Int) = some (NL ((List.range S).map (cmp N T tabs))) := by
  have h512 := UL h8 hK;unfold ZQ;rw [we rfl hS,obs,ue (fun i => ((cmp N T tabs i : Nat) : Int)) (z := 0) (n := S) (by simp) hS rfl]
  · simp [NL]
  · intro j s hj hs;have hlt : ∀ x ∈ tabs.map (fun t => ga t j),x < N := by
      intro x hx';obtain ⟨t,ht',rfl⟩ := List.mem_map.1 hx';exact (hl t ht').2 _ (yp (by rw [(hl t ht').1]; exact hj))
    have hc := Vt (R := List Int) (N := N) (k := j) (S := S) hN hj tabs 0 0 hl (by rw [ht]; omega);rw [show ((0 : Nat) : Int) = 0 from rfl] at hc;rw [hc,obs,zY];simp only [];rw [YN (by rw [hT]; exact Xe hlt (by simpa using ht)),obs,yv,gge (by omega),obs,itn];rfl

theorem zcG {L : List (List Nat)} {ds : List Nat} : (List.range ds.length).map (fun j => NL (gl L (ga ds j))) = NLL (ds.map (gl L)) := by
  unfold NLL;rw [List.map_map]
  conv => rhs; rw [← Uu ds]
  rw [List.map_map];rfl


set_option linter.unusedVariables false

theorem zaB {S R : Type} {step : Int → S → Option (Ctl S R)} (p : Nat → Bool) (F : Nat → S) (r : R) : ∀ (n j0 : Nat),(∀ j,j0 ≤ j → j < j0 + n → step (j : Int) (F j) = some (bif p j then .nx (F (j + 1)) else .rt r)) →
    forI step n (j0 : Int) (F j0) = some (bif (List.range' j0 n).all p then .br (F (j0 + n)) else .rt r)
  | 0,j0,_ => rfl
  | n + 1,j0,h => by
    unfold forI;rw [h j0 (Nat.le_refl _) (by omega)];have := zaB p F r n (j0 + 1) (fun j h1 h2 => h j (by omega) (by omega));rw [List.range'_succ,List.all_cons];cases hp : p j0 with
    | true =>
      simp only [ct1,Bool.true_and];rw [show (j0 : Int) + 1 = ((j0 + 1 : Nat) : Int) by omega,this,show j0 + 1 + n = j0 + (n + 1) by omega]
    | false => rfl

theorem zcL {S R : Type} {step : Int → S → Option (Ctl S R)} (p : Nat → Bool) (F : Nat → S) (r : R) {n : Nat} {hi : Int} {s : S} (hn : hi = (n : Int)) (h1 : n ≤ 9223372036854775807) (hs : s = F 0)
    (h : ∀ j : Nat,j < n → step (j : Int) (F j) = some (bif p j then .nx (F (j + 1)) else .rt r)) : forC step 0 hi s = some (bif (List.range n).all p then .br (F n) else .rt r) := by
  unfold forC;subst hn hs;have := zaB (step := step) p F r n 0 (fun j _ hj => h j (by omega));simp [List.range_eq_range'] at this ⊢;have h2 : (n : Int) ≤ 9223372036854775807 := by omega
  simp [h2,this]

section
set_option linter.unusedVariables false

section
variable (m : Nat) (st : Nat → Nat → Bool) (tof : Nat → Bool)
def Wk : Nat → Nat → Bool
  | 0,f => tof f
  | d + 1,f => (List.range m).any fun g => st f g && Wk d g
def fr (d f : Nat) : Int := match (List.range (d + 1)).find? (fun e => Wk m st tof e f) with | some e => (e : Int) | none => -1
variable {m st tof}
theorem wZ (d f : Nat) : (fr m st tof d f = -1 ∧ ∀ e,e ≤ d → Wk m st tof e f = false) ∨ (∃ e : Nat,fr m st tof d f = (e : Int) ∧ e ≤ d ∧ Wk m st tof e f = true ∧ ∀ e',e' < e → Wk m st tof e' f = false) := by
  unfold fr;cases h : (List.range (d + 1)).find? (fun e => Wk m st tof e f) with
  | none =>
    left;rw [List.find?_eq_none] at h;exact ⟨rfl,fun e he => by simpa using h e (List.mem_range.2 (by omega))⟩
  | some e =>
    right;obtain ⟨hp,us,bs,he,ha⟩ := List.find?_eq_some_iff_append.1 h;have hlt : e < d + 1 := List.mem_range.1 (by rw [he]; simp);refine ⟨e,rfl,by omega,hp,fun e' he' => ?_⟩;have hm : e' ∈ us ++ e :: bs := by rw [← he]; exact List.mem_range.2 (by omega)
    have hlen : us.length = e := by
      have hh := congrArg (fun l : List Nat => l[us.length]?) he;simp only [List.getElem?_append_right (Nat.le_refl _),Nat.sub_self,List.getElem?_cons_zero] at hh;have hl2 : us.length < d + 1 := by
        have := congrArg List.length he;simp at this; omega
      rw [List.getElem?_range hl2] at hh;exact Option.some.inj hh
    have hin : e' ∈ us := by
      have h1 : (us ++ e :: bs)[e']? = some e' := by rw [← he,List.getElem?_range (by omega)]
      rw [List.getElem?_append_left (by omega)] at h1;exact List.mem_of_getElem? h1
    simpa using ha e' hin
theorem fr_ge (d f : Nat) : -1 ≤ fr m st tof d f ∧ fr m st tof d f ≤ (d : Int) := by
  rcases wZ (m := m) (st := st) (tof := tof) d f with ⟨e,_⟩ | ⟨e,h,h1,_⟩
  · rw [e]; omega
  · rw [h]; omega
theorem zcJ {d f : Nat} (h : fr m st tof d f < 0) : ∀ e,e ≤ d → Wk m st tof e f = false := by
  rcases wZ (m := m) (st := st) (tof := tof) d f with ⟨_,h'⟩ | ⟨e,h',_⟩
  · exact h'
  · rw [h'] at h; omega
theorem UI {d f e : Nat} (he : e ≤ d) (hw : Wk m st tof e f = true) (hl : ∀ e',e' < e → Wk m st tof e' f = false) : fr m st tof d f = (e : Int) := by
  rcases wZ (m := m) (st := st) (tof := tof) d f with ⟨_,h'⟩ | ⟨e2,h',h1,h2,h3⟩
  · rw [h' e he] at hw; cases hw
  · have : e2 = e := by
      rcases Nat.lt_trichotomy e2 e with h | h | h
      · rw [hl e2 h] at h2; cases h2
      · exact h
      · rw [h3 e h] at hw; cases hw
    rw [h',this]
theorem zaC {d f e : Nat} (h : fr m st tof d f = (e : Int)) : e ≤ d ∧ Wk m st tof e f = true ∧ ∀ e',e' < e → Wk m st tof e' f = false := by
  rcases wZ (m := m) (st := st) (tof := tof) d f with ⟨h',_⟩ | ⟨e2,h',h1,h2,h3⟩
  · rw [h'] at h; omega
  · have : e2 = e := by rw [h'] at h; omega
    subst this; exact ⟨h1,h2,h3⟩
theorem fr_keep {d f : Nat} (h : ¬ fr m st tof d f < 0) : fr m st tof (d + 1) f = fr m st tof d f := by
  obtain ⟨e,he⟩ : ∃ e : Nat,fr m st tof d f = (e : Int) := ⟨(fr m st tof d f).toNat,by omega⟩;obtain ⟨h1,h2,h3⟩ := zaC he;rw [he]; exact UI (by omega) h2 h3
theorem fr_zero (f : Nat) : fr m st tof 0 f = if tof f then 0 else -1 := by
  cases h : tof f with
  | true => exact UI (e := 0) (Nat.le_refl _) h (fun e' he' => by omega)
  | false =>
    rcases wZ (m := m) (st := st) (tof := tof) 0 f with ⟨h',_⟩ | ⟨e2,h',h1,h2,h3⟩
    · simpa using h'
    · obtain rfl : e2 = 0 := by omega
      have : tof f = true := h2;rw [h] at this; cases this
theorem fr_any {d f : Nat} (h : fr m st tof d f < 0) : ((List.range m).any fun g => st f g && (fr m st tof d g == (d : Int))) = Wk m st tof (d + 1) f := by
  have hn := zcJ h;show _ = (List.range m).any fun g => st f g && Wk m st tof d g
  rw [Bool.eq_iff_iff];simp only [List.any_eq_true,List.mem_range,Bool.and_eq_true,beq_iff_eq];constructor
  · rintro ⟨g,hg,hs,he⟩; exact ⟨g,hg,hs,(zaC he).2.1⟩
  · rintro ⟨g,hg,hs,hw⟩;refine ⟨g,hg,hs,UI (Nat.le_refl _) hw (fun e' he' => ?_)⟩;cases hw' : Wk m st tof e' g with
    | false => rfl
    | true =>
      have : Wk m st tof (e' + 1) f = true := by
        show ((List.range m).any fun g => st f g && Wk m st tof e' g) = true;rw [List.any_eq_true];exact ⟨g,List.mem_range.2 hg,by rw [hs,hw']; rfl⟩
      rw [hn (e' + 1) (by omega)] at this; cases this
theorem fr_succ {d f : Nat} (h : fr m st tof d f < 0) : fr m st tof (d + 1) f = if ((List.range m).any fun g => st f g && (fr m st tof d g == (d : Int))) then ((d + 1 : Nat) : Int) else fr m st tof d f := by
  rw [fr_any h];have hn := zcJ h;cases hw : Wk m st tof (d + 1) f with
  | true => exact UI (Nat.le_refl _) hw (fun e' he' => hn e' (by omega))
  | false =>
    have hm1 : fr m st tof d f = -1 := by have := (fr_ge (m := m) (st := st) (tof := tof) d f).1; omega
    rcases wZ (m := m) (st := st) (tof := tof) (d + 1) f with ⟨h',_⟩ | ⟨e2,h',h1,h2,h3⟩
    · rw [h',hm1]; rfl
    · exfalso;by_cases e : e2 = d + 1
      · subst e; rw [hw] at h2; cases h2
      · rw [hn e2 (by omega)] at h2; cases h2
theorem fr_eqd (d g : Nat) : (fr m st tof (d + 1) g == (d : Int)) = (fr m st tof d g == (d : Int)) := by
  by_cases h : fr m st tof d g < 0
  · rw [Bool.eq_iff_iff,beq_iff_eq,beq_iff_eq];constructor
    · intro h';obtain ⟨_,h2,_⟩ := zaC h';rw [zcJ h d (Nat.le_refl _)] at h2; cases h2
    · intro h'; omega
  · rw [fr_keep h]
end

def rowF {α : Type} (m : Nat) (φ : Nat → α) : List α := (List.range m).map φ
@[simp] theorem rowF_len {α : Type} (m : Nat) (φ : Nat → α) : (rowF m φ).length = m := by simp [rowF]
theorem Uv {α : Type} {m f : Nat} {φ : Nat → α} (h : f < m) : (rowF m φ)[f]? = some (φ f) := by simp [rowF,h]
theorem rowF_idx {α : Type} {m f : Nat} {φ : Nat → α} (h : f < m) : idx (rowF m φ) (f : Int) = some (φ f) := by rw [yv,Uv h]
theorem rowF_ext {α : Type} {m : Nat} {φ ψ : Nat → α} (h : ∀ j,j < m → φ j = ψ j) : rowF m φ = rowF m ψ := List.map_congr_left fun j hj => h j (List.mem_range.1 hj)
theorem rowF_set {α : Type} {m f : Nat} {φ : Nat → α} {v : α} : (rowF m φ).set f v = rowF m (fun j => if j = f then v else φ j) := by
  apply List.ext_getElem?;intro i;by_cases hi : i < m
  · rw [Uv hi,List.getElem?_set];by_cases e : f = i
    · subst e; simp [hi]
    · rw [if_neg e,Uv hi,if_neg (fun h => e h.symm)]
  · rw [List.getElem?_eq_none (by simp; omega),List.getElem?_eq_none (by simp; omega)]
theorem rowF_rep {α : Type} (m : Nat) (z : α) : List.replicate m z = rowF m (fun _ => z) := by
  unfold rowF; rw [List.map_const',List.length_range]
def lst (m : Nat) (p : Nat → Bool) : Nat := ((List.range m).find? p).getD 0
theorem Un {m : Nat} {p : Nat → Bool} (h : (List.range m).any p = true) : lst m p < m ∧ p (lst m p) = true ∧ ∀ j,j < lst m p → p j = false := by
  unfold lst;cases hf : (List.range m).find? p with
  | none =>
    rw [List.find?_eq_none] at hf;rw [List.any_eq_true] at h;obtain ⟨x,hx,hp⟩ := h;exact absurd hp (hf x hx)
  | some e =>
    obtain ⟨hp,us,bs,he,ha⟩ := List.find?_eq_some_iff_append.1 hf;have hlt : e < m := List.mem_range.1 (by rw [he]; simp);refine ⟨hlt,hp,fun j hj => ?_⟩;have hj : j < e := hj;have hl2 : us.length < m := by have := congrArg List.length he; simp at this; omega
    have hlen : us.length = e := by
      have hh := congrArg (fun l : List Nat => l[us.length]?) he;simp only [List.getElem?_append_right (Nat.le_refl _),Nat.sub_self,List.getElem?_cons_zero] at hh;rw [List.getElem?_range hl2] at hh;exact Option.some.inj hh
    have hin : j ∈ us := by
      have h1 : (us ++ e :: bs)[j]? = some j := by rw [← he,List.getElem?_range (by omega)]
      rw [List.getElem?_append_left (by omega)] at h1;exact List.mem_of_getElem? h1
    simpa using ha j hin
theorem lst_uniq {m k : Nat} {p : Nat → Bool} (hk : k < m) (hp : p k = true) (hl : ∀ j,j < k → p j = false) : lst m p = k := by
  have h : (List.range m).any p = true := List.any_eq_true.2 ⟨k,List.mem_range.2 hk,hp⟩;obtain ⟨h1,h2,h3⟩ := Un h;rcases Nat.lt_trichotomy (lst m p) k with e | e | e
  · rw [hl _ e] at h2; cases h2
  · exact e
  · rw [h3 _ e] at hp; cases hp
theorem lst_congr {m : Nat} {p q : Nat → Bool} (h : ∀ j,j < m → p j = q j) : lst m p = lst m q := by
  unfold lst;congr 1;have : ∀ (l : List Nat),(∀ j ∈ l,p j = q j) → l.find? p = l.find? q := by
    intro l
    induction l with
    | nil => intro _; rfl
    | cons x l ih => intro hl; rw [List.find?_cons,List.find?_cons,hl x (by simp),ih (fun j hj => hl j (by simp [hj]))]
  exact this _ fun j hj => h j (List.mem_range.1 hj)
section
variable (m : Nat) (st : Nat → Nat → Bool) (tof : Nat → Bool)
def cs (b c0 : Nat) : Nat → Nat
  | 0 => c0
  | j + 1 => lst m (fun g => st (cs b c0 j) g && Wk m st tof (b - (j + 1)) g)
variable {m st tof}
theorem cs_ok {b c0 : Nat} (h0 : c0 < m) (hw : Wk m st tof b c0 = true) : ∀ j,j ≤ b → cs m st tof b c0 j < m ∧ Wk m st tof (b - j) (cs m st tof b c0 j) = true
  | 0,_ => ⟨h0,hw⟩
  | j + 1,hj => by
    obtain ⟨h1,h2⟩ := cs_ok h0 hw j (by omega);have e : b - j = (b - (j + 1)) + 1 := by omega
    rw [e] at h2;have h2 : ((List.range m).any fun g => st (cs m st tof b c0 j) g && Wk m st tof (b - (j + 1)) g) = true := h2;obtain ⟨g1,g2,_⟩ := Un h2;rw [Bool.and_eq_true] at g2;exact ⟨g1,g2.2⟩
theorem cs_any {b c0 : Nat} (h0 : c0 < m) (hw : Wk m st tof b c0 = true) {j : Nat} (hj : j < b) : ((List.range m).any fun g => st (cs m st tof b c0 j) g && Wk m st tof (b - (j + 1)) g) = true := by
  obtain ⟨h1,h2⟩ := cs_ok h0 hw j (by omega);have e : b - j = (b - (j + 1)) + 1 := by omega
  rw [e] at h2;exact h2
theorem cs_fr {b c0 D : Nat} (h0 : c0 < m) (hw : Wk m st tof b c0 = true) (hb : b ≤ D) (hmin : ∀ e,e < b → Wk m st tof e c0 = false) : ∀ j,j ≤ b → fr m st tof D (cs m st tof b c0 j) = ((b - j : Nat) : Int)
  | 0,_ => UI hb hw hmin
  | j + 1,hj => by
    have ih := zaC (cs_fr h0 hw hb hmin j (by omega));obtain ⟨h1,h2⟩ := cs_ok h0 hw (j + 1) hj;refine UI (by omega) h2 (fun e' he' => ?_);cases hw' : Wk m st tof e' (cs m st tof b c0 (j + 1)) with
    | false => rfl
    | true =>
      have hs : st (cs m st tof b c0 j) (cs m st tof b c0 (j + 1)) = true := by
        have := (Un (cs_any h0 hw (show j < b by omega))).2.1;rw [Bool.and_eq_true] at this; exact this.1
      have : Wk m st tof (e' + 1) (cs m st tof b c0 j) = true := by
        show ((List.range m).any fun g => st (cs m st tof b c0 j) g && Wk m st tof e' g) = true;rw [List.any_eq_true];exact ⟨_,List.mem_range.2 h1,by rw [hs,hw']; rfl⟩
      rw [ih.2.2 (e' + 1) (by omega)] at this; cases this
theorem cs_next {b c0 D : Nat} (h0 : c0 < m) (hw : Wk m st tof b c0 = true) (hb : b ≤ D) (hmin : ∀ e,e < b → Wk m st tof e c0 = false) {j g : Nat} (hj : j < b) (hg : g < m) :
    (st (cs m st tof b c0 j) g && (fr m st tof D g == ((b - (j + 1) : Nat) : Int))) = (st (cs m st tof b c0 j) g && Wk m st tof (b - (j + 1)) g) := by
  have ih := zaC (cs_fr h0 hw hb hmin j (by omega));cases hs : st (cs m st tof b c0 j) g with
  | false => rfl
  | true =>
    rw [Bool.true_and,Bool.true_and,Bool.eq_iff_iff,beq_iff_eq];constructor
    · intro h; exact (zaC h).2.1
    · intro h;refine UI (by omega) h (fun e' he' => ?_);cases hw' : Wk m st tof e' g with
      | false => rfl
      | true =>
        have : Wk m st tof (e' + 1) (cs m st tof b c0 j) = true := by
          show ((List.range m).any fun g => st (cs m st tof b c0 j) g && Wk m st tof e' g) = true;rw [List.any_eq_true];exact ⟨_,List.mem_range.2 hg,by rw [hs,hw']; rfl⟩
        rw [ih.2.2 (e' + 1) (by omega)] at this; cases this
end

end

set_option linter.unusedVariables false

inductive Rst where
  | run (L : List (List Nat)) (t : Nat)
  | got
  | opn

def frs (b : Nat) (ds : List Nat) : Bool := (b == 0) || ds.any fun d => decide (b ≤ d)

def gdr (N : Nat) (t : List Nat) : Bool := (List.range 3).all fun p => (List.range N).all fun a => (List.range N).all fun b => ga t (p * N * N + a * N + b) == a

def radd (N : Nat) (s : Rst) (t : List Nat) : Rst := match s with
  | .run L tr => if t ∈ L then .run L tr else if L.length = 150 then .opn else if gdr N t = true then .got else .run (L ++ [t]) tr
  | s => s

abbrev Cnd := Int × (List ((List Int) × (List Int)))

def majC : Cnd := (3,[([0,0,1],[0]),([0,1,0],[0]),([1,0,0],[0])])

def patI : List (List Int) := [[0,0,1],[0,1,0],[1,0,0]]

theorem pats_spec : yA majC = some patI := by decide +kernel

theorem pats_impl : yK majC = some patI := by decide +kernel

theorem zcY : xS (ByteArray.mk #[109,97,106,111,114,105,116,121]) = some majC := by decide +kernel

def xd (N : Nat) : List (List Nat) := (List.range 3).map fun q => (List.range 3).flatMap fun p => (List.range N).flatMap fun a => (List.range N).map fun b => if p + q = 2 then b else a

theorem zcO {N : Nat} (h1 : 1 ≤ N) (h4 : N ≤ 4) : YU (N : Int) majC = some (NLL (xd N)) ∧ yx (N : Int) majC = some (NLL (xd N)) ∧ (xd N).length = 3 ∧ ∀ t ∈ xd N,t.length = 3 * (N * N) ∧ ∀ x ∈ t,x < N := by
  have : N = 1 ∨ N = 2 ∨ N = 3 ∨ N = 4 := by omega
  rcases this with rfl | rfl | rfl | rfl <;> decide +kernel

theorem zdd {N : Nat} (h1 : 1 ≤ N) (h4 : N ≤ 4) {t : List Nat} (hl : t.length = 3 * (N * N)) : Yr (N : Int) (NL t) majC patI = some (gdr N t) := by
  unfold Yr;have hb : N * N ≤ 16 := Nat.mul_le_mul h4 h4;have key : ∀ (p : Nat) (R : Type) (r : R),p < 3 → (forC (S := Unit) (R := R) (fun k240 s238 =>
  (forC (S := Unit) (R := R) (fun k275 s273 =>
  (idx ([k240,k275]) 0).bind fun x288 =>
  (idx (NL t) (w64 ((w64 ((w64 ((w64 ((p : Int) * (N : Int))) * (N : Int))) + (w64 (k240 * (N : Int))))) + k275))).bind fun x305 =>
  (bif (x305 != x288) then some (.rt r) else some (.nx ()))) 0 (N : Int) ()).bind fun o277 => after o277 (fun r_ => some (.rt r_)) (fun s273 =>
  some (.nx ()))) 0 (N : Int) ()) = some (bif (List.range N).all fun a => (List.range N).all fun b => ga t (p * N * N + a * N + b) == a then .br () else .rt r) := by
    intro p R r hp;refine Yq (fun a => (List.range N).all fun b => ga t (p * N * N + a * N + b) == a) r rfl (by omega) (fun a ha => ?_);rw [Yq (fun b => ga t (p * N * N + a * N + b) == a) r rfl (by omega) (fun b hbb => ?_)]
    · cases (List.range N).all fun b => ga t (p * N * N + a * N + b) == a <;> rfl
    · have e0 : idx ([(a : Int),(b : Int)]) 0 = some (a : Int) := rfl;have h3 : a * N + N ≤ N * N := by rw [← Nat.succ_mul]; exact Nat.mul_le_mul_right _ ha
      have h5 : p * N * N ≤ 2 * (N * N) := by rw [Nat.mul_assoc]; exact Nat.mul_le_mul_right _ (by omega)
      have h6 : p * N ≤ 2 * N := Nat.mul_le_mul_right _ (by omega);rw [e0,obs,yS (by omega),yS (by omega),yS (by omega),XC (by omega),XC (by omega),YN (by omega),obs];rw [show (((ga t (p * N * N + a * N + b) : Nat) : Int) != (a : Int)) = !(ga t (p * N * N + a * N + b) == a) by rw [bne]; congr 1; rw [Bool.eq_iff_iff]; simp; omega];cases ga t (p * N * N + a * N + b) == a <;> rfl
  have hp : ∀ j : Nat,j < 3 → ∃ q,idx majC.2 (j : Int) = some q ∧ q.2 = [0] ∧ ZM patI q.1 = some (j : Int) := fun j hj => by
    have : j = 0 ∨ j = 1 ∨ j = 2 := by omega
    rcases this with rfl | rfl | rfl <;> exact ⟨_,rfl,rfl,by decide +kernel⟩
  rw [Yq (fun p => (List.range N).all fun a => (List.range N).all fun b => ga t (p * N * N + a * N + b) == a) false (n := 3) (hi := (majC.2.length : Int)) rfl (by omega) (fun j hj => ?_)]
  · unfold gdr;cases (List.range 3).all fun p => (List.range N).all fun a => (List.range N).all fun b => ga t (p * N * N + a * N + b) == a <;> rfl
  · obtain ⟨⟨q1,q2⟩,e1,e2,e3⟩ := hp j hj;have e2 : q2 = [0] := e2;subst e2;have e4 : ZM patI [0] = some (-1) := by decide +kernel
    have e5 : idx ([0] : List Int) 0 = some 0 := rfl;have e6 : decide ((1 : Int) < (([0] : List Int).length : Int)) = false := rfl;simp only [e1,obs,e3,e4,e5,e6,ct0];rw [key j Bool false hj];cases (List.range N).all fun a => (List.range N).all fun b => ga t (j * N * N + a * N + b) == a <;> rfl

theorem zcV {N : Nat} (h1 : 1 ≤ N) (h4 : N ≤ 4) {t : List Nat} (hl : t.length = 3 * (N * N)) : YV (N : Int) (NL t) majC patI = some (gdr N t) := by
  unfold YV;have hb : N * N ≤ 16 := Nat.mul_le_mul h4 h4;have hz : nz (N : Int) = some () := zcK (by omega);have hnn : w64 ((N : Int) * (N : Int)) = ((N * N : Nat) : Int) := yS (by omega);have key : ∀ (p : Nat),p < 3 → (forC (S := Unit) (R := Bool) (fun k149 s147 =>
  (idx ([w64 (Int.tdiv k149 (N : Int)),Int.tmod k149 (N : Int)]) 0).bind fun x169 =>
  (idx (NL t) (w64 ((w64 ((w64 ((p : Int) * (N : Int))) * (N : Int))) + k149))).bind fun x181 =>
  (bif (x181 != x169) then some (.rt false) else some (.nx ()))) 0 ((N * N : Nat) : Int) ()) = some (bif (List.range N).all fun a => (List.range N).all fun b => ga t (p * N * N + a * N + b) == a then .br () else .rt false) := by
    intro p hp;rw [Yq (fun k => ga t (p * N * N + k) == k / N) false rfl (by omega) (fun k hk => ?_)]
    · congr 2;rw [Bool.eq_iff_iff,List.all_eq_true,List.all_eq_true];simp only [List.mem_range,List.all_eq_true];constructor
      · intro H a ha b hbb;have h3 : a * N + N ≤ N * N := by rw [← Nat.succ_mul]; exact Nat.mul_le_mul_right _ ha
        have := H (a * N + b) (by omega);rw [← Nat.add_assoc,show (a * N + b) / N = a by rw [Nat.mul_comm,Nat.mul_add_div (by omega),Nat.div_eq_of_lt hbb,Nat.add_zero]] at this;exact this
      · intro H k hk;have := H (k / N) (Nat.div_lt_of_lt_mul hk) (k % N) (Nat.mod_lt _ (by omega));rw [Nat.add_assoc,Nat.mul_comm (k / N),Nat.div_add_mod] at this;exact this
    · have e0 : idx ([w64 (Int.tdiv (k : Int) (N : Int)),Int.tmod (k : Int) (N : Int)]) 0 = some (w64 (Int.tdiv (k : Int) (N : Int))) := rfl;have h5 : p * N * N ≤ 2 * (N * N) := by rw [Nat.mul_assoc]; exact Nat.mul_le_mul_right _ (by omega)
      have h6 : p * N ≤ 2 * N := Nat.mul_le_mul_right _ (by omega);rw [e0,obs,Vm (by omega),yS (by omega),yS (by omega),XC (by omega),YN (by omega),obs];rw [show (((ga t (p * N * N + k) : Nat) : Int) != ((k / N : Nat) : Int)) = !(ga t (p * N * N + k) == k / N) by rw [bne]; congr 1; rw [Bool.eq_iff_iff]; simp; omega];cases ga t (p * N * N + k) == k / N <;> rfl
  have hp : ∀ (q : (List Int) × (List Int)) (j : Nat),j < 3 → q.2 = [0] → ye patI q.1 = some (j : Int) → ((ye patI q.1).bind fun r105 =>
  (bif ((q.2.length : Int) == majC.1) then (ye patI q.2).bind fun r115 =>
  some r115 else some (-1)).bind fun s110 =>
  (forC (S := Unit) (R := Bool) (fun k149 s147 =>
  (nz (N : Int)).bind fun u163 =>
  (nz (N : Int)).bind fun u164 =>
  (idx q.2 0).bind fun x165 =>
  (idx ([w64 (Int.tdiv k149 (N : Int)),Int.tmod k149 (N : Int)]) x165).bind fun x169 =>
  (bif (decide (0 ≤ s110)) then (idx (NL t) (w64 ((w64 ((w64 (s110 * (N : Int))) * (N : Int))) + k149))).bind fun x179 =>
  some x179 else some x169).bind fun s175 =>
  (idx (NL t) (w64 ((w64 ((w64 (r105 * (N : Int))) * (N : Int))) + k149))).bind fun x181 =>
  (bif (x181 != s175) then some (.rt false) else some (.nx ()))) 0 (w64 ((N : Int) * (N : Int))) ()).bind fun o151 => after o151 (fun r_ => some (Ctl.rt r_)) (fun s147 =>
  some (Ctl.nx ()))) = some (bif (List.range N).all fun a => (List.range N).all fun b => ga t (j * N * N + a * N + b) == a then .nx () else .rt false) := by
    rintro ⟨q1,q2⟩ j hj e2 e3;have e2 : q2 = [0] := e2;subst e2;have e5 : idx ([0] : List Int) 0 = some 0 := rfl;have e6 : ((([0] : List Int).length : Int) == majC.1) = false := rfl;have e7 : decide ((0 : Int) ≤ -1) = false := rfl;simp only [e3,obs,hz,e5,e6,e7,ct0,hnn];rw [key j hj];cases (List.range N).all fun a => (List.range N).all fun b => ga t (j * N * N + a * N + b) == a <;> rfl
  have q0 := hp ([0,0,1],[0]) 0 (by omega) rfl (by decide +kernel);have q1 := hp ([0,1,0],[0]) 1 (by omega) rfl (by decide +kernel);have q2 := hp ([1,0,0],[0]) 2 (by omega) rfl (by decide +kernel);have e3 : List.range 3 = [0,1,2] := rfl;rw [show majC.2 = [([0,0,1],[0]),([0,1,0],[0]),([1,0,0],[0])] from rfl];unfold gdr;rw [e3];unfold forR;simp only [q0,List.all_cons,List.all_nil];cases ((List.range N).all fun a => (List.range N).all fun b => ga t (0 * N * N + a * N + b) == a)
  · rfl
  unfold forR;simp only [q1,ct1];cases ((List.range N).all fun a => (List.range N).all fun b => ga t (1 * N * N + a * N + b) == a)
  · rfl
  unfold forR;simp only [q2,ct1];cases ((List.range N).all fun a => (List.range N).all fun b => ga t (2 * N * N + a * N + b) == a) <;> rfl

set_option linter.unusedVariables false

def Gsr (N k : Nat) (s : Rst) : Prop := match s with
  | .run L tr => k ≤ L.length ∧ L.length ≤ 150 ∧ Tbl N (3 * (N * N)) L ∧ tr ≤ 100000
  | _ => True

theorem wU {N k : Nat} {s : Rst} {t : List Nat} (h : Gsr N k s) (ht : t.length = 3 * (N * N) ∧ ∀ x ∈ t,x < N) : Gsr N k (radd N s t) := by
  cases s with
  | got => trivial
  | opn => trivial
  | run L tr =>
    obtain ⟨h1,h2,h3,h4⟩ := h;unfold radd;simp only [];split
    · exact ⟨h1,h2,h3,h4⟩
    · split
      · trivial
      · split
        · trivial
        · refine ⟨by simp; omega,by simp; omega,fun u hu => ?_,h4⟩;rcases List.mem_append.1 hu with hu | hu
          · exact h3 u hu
          · rw [List.mem_singleton.1 hu]; exact ht

abbrev SpT := (List (List Int)) × Stp × Int × Int × Bool

def SpS (s : Rst) (z : SpT) : Prop := match s with
  | .run L tr => z.1 = NLL L ∧ z.2.1.length = L.length ∧ z.2.2.1 = -1 ∧ z.2.2.2.1 = (tr : Int) ∧ z.2.2.2.2 = false
  | .got => 0 ≤ z.2.2.1
  | .opn => z.2.2.1 < 0 ∧ z.2.2.2.2 = true

theorem rsp_add {N k : Nat} (h1 : 1 ≤ N) (h4 : N ≤ 4) {s : Rst} {z : SpT} (hz : SpS s z) (hg : Gsr N k s) {t : List Nat} (hl : t.length = 3 * (N * N)) (st : Int × List Int) : ∃ z',Zv z (N : Int) majC patI (NL t) st = some z' ∧ SpS (radd N s t) z' := by
  have hb : N * N ≤ 16 := Nat.mul_le_mul h4 h4;unfold Zv;cases s with
  | got =>
    have hz : 0 ≤ z.2.2.1 := hz;rw [decide_eq_true hz];exact ⟨_,rfl,hz⟩
  | opn =>
    obtain ⟨z1,z2⟩ := hz;rw [decide_eq_false (by omega),z2];exact ⟨_,rfl,z1,rfl⟩
  | run L tr =>
    obtain ⟨z1,z2,z3,z4,z5⟩ := hz;obtain ⟨g1,g2,g3,g4⟩ := hg;obtain ⟨r,e,er⟩ := place_mem L t (by omega) (fun u hu => by have := (g3 u hu).1; omega);rw [decide_eq_false (by omega),z5,ct0,ct0,z1,e,obs,obs,er];unfold radd;simp only [];by_cases hm : t ∈ L
    · rw [if_pos hm,decide_eq_true hm];exact ⟨_,rfl,rfl,z2,z3,z4,rfl⟩
    · rw [if_neg hm,decide_eq_false hm,ct0,yw];by_cases h150 : L.length = 150
      · rw [if_pos h150,show ((L.length : Int) == 150) = true by simp; omega];exact ⟨_,rfl,(show z.2.2.1 < 0 by omega),rfl⟩
      · rw [if_neg h150,show ((L.length : Int) == 150) = false by simp; omega,ct0,yC (by simp; omega),obs,yC (by simp; omega),obs];have eo : Yr (N : Int) (NL t) (majC.1,majC.2) patI = some (gdr N t) := zdd h1 h4 hl;rw [eo,obs];cases hgd : gdr N t
        · rw [if_neg (by simp),ct0];exact ⟨_,rfl,by simp [NLL],by simp [z2],z3,z4,rfl⟩
        · rw [if_pos rfl,ct1];refine ⟨_,rfl,?_⟩;show (0 : Int) ≤ w64 (((NLL L ++ [NL t]).length : Int) - 1);rw [List.length_append,yw,List.length_singleton,Zl (by omega) (by omega)];omega

def RadR (s : Rst) (r : Bool × (List (List Int)) × Stp × (List (ByteArray × Bool)) × Int) : Prop := match s with
  | .run L _ => r.1 = true ∧ r.2.1 = NLL L ∧ r.2.2.1.length = L.length ∧ SeenOk r.2.2.2.1 L ∧ r.2.2.2.2 = 2
  | .got => r.1 = false ∧ r.2.2.2.2 = 1
  | .opn => r.1 = false ∧ r.2.2.2.2 = 3

theorem rim_add {N k tr : Nat} (h1 : 1 ≤ N) (h4 : N ≤ 4) {L : List (List Nat)} (hg : Gsr N k (.run L tr)) {a : Int × List (Int × List Int)} {a1 : Int} {a2 : List (Int × List Int)} (ha : a.1 = (N : Int)) {rows : List (List Int)} {steps : Stp} {seen : List (ByteArray × Bool)} (z1 : rows = NLL L) (z2 : steps.length = L.length) (z3 : SeenOk seen L) {t : List Nat} (ht : t.length = 3 * (N * N) ∧ ∀ x ∈ t,x < N) (o : Int) {st : List Int} (hst : st.length ≤ 1000) (tries : Int) :
    ∃ r,zR (NL t) o st (a1,a2,rows,steps,seen,tries,2) a majC patI = some r ∧ RadR (radd N (.run L tr) t) r := by
  have hb : N * N ≤ 16 := Nat.mul_le_mul h4 h4;obtain ⟨g1,g2,g3,g4⟩ := hg;unfold zR;have hs : ∀ x ∈ t,x < 65536 := fun x hx => by have := ht.2 x hx; omega
  rw [UJ (by omega),obs,z3 t hs];unfold radd;simp only [];by_cases hm : t ∈ L
  · rw [if_pos hm,decide_eq_true hm];exact ⟨_,rfl,rfl,z1,z2,z3,rfl⟩
  · rw [if_neg hm,decide_eq_false hm,ct0,z1,yw];by_cases h150 : L.length = 150
    · rw [if_pos h150,show ((L.length : Int) == 150) = true by simp; omega];exact ⟨_,rfl,rfl,rfl⟩
    · rw [if_neg h150,show ((L.length : Int) == 150) = false by simp; omega,ct0,yC (by simp; omega),obs,zbT (by omega),obs,yC (by simp; omega),obs];have eo : yl (NL t) (a.1,a.2) (majC.1,majC.2) patI = some (gdr N t) := by
        unfold yl;simp only [ha];have := zcV h1 h4 ht.1;rw [this]; rfl
      rw [eo,obs];cases hgd : gdr N t
      · rw [if_neg (by simp),ct0];exact ⟨_,rfl,rfl,by simp [NLL],by simp [z2],z3.add hs,rfl⟩
      · rw [if_pos rfl,ct1];exact ⟨_,rfl,rfl,rfl⟩

theorem zbj {n : Nat} : ∀ (t i d : Nat),d ∈ dig n t i ↔ ∃ e,e < t ∧ d = i / n ^ e % n
  | 0,i,d => by simp [dig]
  | t + 1,i,d => by
    unfold dig;rw [List.mem_cons,zbj t i d];constructor
    · rintro (h | ⟨e,he,h⟩)
      · exact ⟨t,by omega,h⟩
      · exact ⟨e,by omega,h⟩
    · rintro ⟨e,he,h⟩;by_cases e = t
      · subst e; exact .inl h
      · exact .inr ⟨e,by omega,h⟩

theorem frs_dig {n K i b : Nat} : frs b (dig n K i) = bif (List.range K).all (fun e => decide (i / n ^ e % n < b)) then (b == 0) else true := by
  unfold frs;cases h : (List.range K).all (fun e => decide (i / n ^ e % n < b))
  · rw [ct0];have : ((dig n K i).any fun d => decide (b ≤ d)) = true := by
      obtain ⟨e,he,h2⟩ := List.all_eq_false.1 h;rw [List.mem_range] at he;rw [List.any_eq_true];exact ⟨_,(zbj K i _).2 ⟨e,he,rfl⟩,decide_eq_true (by simpa using h2)⟩
    rw [this,Bool.or_true]
  · rw [ct1];have : ((dig n K i).any fun d => decide (b ≤ d)) = false := by
      rw [List.any_eq_false];intro d hd;obtain ⟨e,he,rfl⟩ := (zbj K i d).1 hd;rw [List.all_eq_true] at h;have := h e (List.mem_range.2 he);rw [decide_eq_true_eq] at this ⊢;omega
    rw [this,Bool.or_false]

theorem fresh_eq {known K i before : Nat} (h1 : 1 ≤ known) (hK : K ≤ 3) (hi : i ≤ 9223372036854775807) : yM (known : Int) (K : Int) (i : Int) (before : Int) = some (frs before (dig known K i)) := by
  unfold yM;have hz : nz (known : Int) = some () := nz_ok (by omega);simp only [hz,obs];rw [zcL (fun e => decide (i / known ^ e % known < before)) (fun e => ((i / known ^ e : Nat) : Int)) true rfl (by omega) (by rw [Nat.pow_zero,Nat.div_one]) (fun j hj => ?_),frs_dig]
  · cases (List.range K).all (fun e => decide (i / known ^ e % known < before))
    · rfl
    · simp only [ct1,obs,zY];congr 1;rw [Bool.eq_iff_iff]; simp; try omega
  · rw [tmod_nat,wb];have e : ((i / known ^ j / known : Nat) : Int) = ((i / known ^ (j + 1) : Nat) : Int) := by rw [Nat.div_div_eq_div_mul,Nat.pow_succ]
    by_cases hb : before ≤ i / known ^ j % known
    · rw [decide_eq_true hb,decide_eq_false (by omega)]; rfl
    · rw [decide_eq_false hb,decide_eq_true (by omega),ct0,ct1,Vm (Nat.le_trans (Nat.div_le_self _ _) hi),e]

theorem zdb {R : Type} {L : List (List Nat)} {ds : List Nat} {b : Nat} {buf : List (List Int)} {rows : List (List Int)} (hr : rows = NLL L) (hbuf : buf.length = ds.length) (hd : ∀ d ∈ ds,d < L.length) (hl : ds.length ≤ 1000) :
    (forC (S := Bool × (List (List Int))) (R := R) (fun k1046 s1044 =>
  (idx (NL ds) k1046).bind fun x1052 =>
  (idx rows x1052).bind fun x1054 =>
  (idx s1044.2 k1046).bind fun x1058 =>
  (bif s1044.1 then some (.nx (true,List.set s1044.2 (Int.toNat k1046) x1054)) else some (.nx ((decide ((b : Int) ≤ x1052)),List.set s1044.2 (Int.toNat k1046) x1054)))) 0 ((NL ds).length : Int) (((b : Int) == 0),buf)) = some (.br (frs b ds,NLL (ds.map (gl L)))) := by
  subst hr;rw [Xd (fun j => ((b == 0) || (ds.take j).any fun d => decide (b ≤ d),(List.range j).map (fun j => NL (gl L (ga ds j))) ++ buf.drop j)) (n := ds.length) (by rw [Xn]) (by omega) (by
    simp only [List.take_zero,List.any_nil,Bool.or_false,List.range_zero,List.map_nil,List.nil_append,List.drop_zero,Prod.mk.injEq,and_true];rw [Bool.eq_iff_iff]; simp; try omega) (fun j hj => ?_)]
  · rw [List.take_of_length_le (Nat.le_refl _),List.drop_of_length_le (by omega),lan,zcG]; rfl
  · have hdj : ga ds j < L.length := hd _ (yp hj);have e : buf.drop j = buf[j] :: buf.drop (j + 1) := List.drop_eq_getElem_cons (by omega);have hlen : ((List.range j).map (fun j => NL (gl L (ga ds j))) ++ buf.drop j).length = buf.length := by simp; omega
    have hset : List.set ((List.range j).map (fun j => NL (gl L (ga ds j))) ++ buf.drop j) j (NL (gl L (ga ds j))) = (List.range (j + 1)).map (fun j => NL (gl L (ga ds j))) ++ buf.drop (j + 1) := by
      rw [List.set_append_right _ _ (by simp),List.range_succ,List.map_append];simp only [List.length_map,List.length_range,Nat.sub_self,e,List.set_cons_zero,List.append_assoc,List.map_cons,List.map_nil,List.singleton_append]
    rw [YN hj,obs,xA hdj,obs];dsimp only;rw [yv,gge (by omega),obs,itn];simp only [hset];have ht : ds.take (j + 1) = ds.take j ++ [ga ds j] := by rw [List.take_succ_eq_append_getElem hj,YT hj]
    rw [ht,List.any_append,← Bool.or_assoc];cases ((b == 0) || (ds.take j).any fun d => decide (b ≤ d))
    · simp
    · simp

set_option linter.unusedVariables false

def rstp (N K : Nat) (T : List Nat) (k b : Nat) (s : Rst) (i : Nat) : Rst := match s with
  | .run L tr => bif frs b (dig k K i) then (if tr = 100000 then .opn else radd N (.run L (tr + 1)) (cmT N (3 * (N * N)) T L (dig k K i))) else .run L tr
  | s => s

theorem zaM {N K k b : Nat} {f : Int × List Int} {T : List Nat} (ho : OpN N f K T) (hk : 1 ≤ k) {s : Rst} (hg : Gsr N k s) (i : Nat) : Gsr N k (rstp N K T k b s i) := by
  cases s with
  | got => trivial
  | opn => trivial
  | run L tr =>
    obtain ⟨h1,h2,h3,h4⟩ := hg;unfold rstp;simp only [];cases frs b (dig k K i)
    · exact ⟨h1,h2,h3,h4⟩
    · rw [ct1];split
      · trivial
      · exact wU ⟨h1,h2,h3,by omega⟩ (zbg ho h3 (Yt k K i) (fun d hd => by have := wO hk K i d hd; omega))

theorem VN {k K : Nat} (h : k ≤ 150) (hK : K ≤ 3) : k ^ K ≤ 3375000 := Nat.le_trans (Nat.pow_le_pow_left h K) (Nat.le_trans (Nat.pow_le_pow_right (by omega) hK) (by decide))

abbrev SpJ := Int × SpT

def rsS (a_ : Int × (List (Int × (List Int)))) (c : Cnd) (r17 r20 : List (List Int)) (known before k2896 : Int) (s3119 : SpJ) : Option (Ctl SpJ SpT) :=
  ((idx a_.2 k2896).bind fun x3138 =>
  (YA known x3138.1).bind fun r3142 =>
  (bif (decide (s3119.1 < r3142)) then (bif (decide (s3119.2.2.2.1 < 0)) then some (!s3119.2.2.2.2.2) else some false) else some false)).bind fun s3135 =>
  (bif s3135 then (idx a_.2 k2896).bind fun x3146 =>
  (yM known x3146.1 s3119.1 before).bind fun r3150 =>
  (bif (!r3150) then some (.nx (w64 (s3119.1 + 1),s3119.2.1,s3119.2.2.1,s3119.2.2.2.1,s3119.2.2.2.2.1,s3119.2.2.2.2.2)) else (idx a_.2 k2896).bind fun x3152 =>
  (ZD known x3152.1 s3119.1).bind fun r3156 =>
  (forC (S := (List (List Int))) (R := ((List (List Int)) × (List (Int × (List Int))) × Int × Int × Bool)) (fun k3193 s3191 =>
  (idx r3156 k3193).bind fun x3204 =>
  (idx s3119.2.1 x3204).bind fun x3206 =>
  (app s3191 ([x3206])).bind fun y3213 =>
  some (.nx y3213)) 0 (r3156.length : Int) ([])).bind fun o3195 => after o3195 (fun r_ => some (.rt r_)) (fun s3191 =>
  (bif (!(decide (100000 < (w64 (s3119.2.2.2.2.1 + 1))))) then (idx a_.2 k2896).bind fun x3219 =>
  (idx r20 0).bind fun x3223 =>
  (yo a_.1 (x3219.1,x3219.2) s3191 (x3223.length : Int)).bind fun r3228 =>
  (Zv (s3119.2.1,s3119.2.2.1,s3119.2.2.2.1,w64 (s3119.2.2.2.2.1 + 1),(decide (100000 < (w64 (s3119.2.2.2.2.1 + 1))))) a_.1 (c.1,c.2) r17 r3228 (k2896,r3156)).bind fun r3233 =>
  some (.nx (w64 (s3119.1 + 1),r3233.1,r3233.2.1,r3233.2.2.1,r3233.2.2.2.1,r3233.2.2.2.2)) else some (.nx (w64 (s3119.1 + 1),s3119.2.1,s3119.2.2.1,s3119.2.2.2.1,w64 (s3119.2.2.2.2.1 + 1),(decide (100000 < (w64 (s3119.2.2.2.2.1 + 1))))))))) else some (.br (s3119.1,s3119.2.1,s3119.2.2.1,s3119.2.2.2.1,s3119.2.2.2.2.1,s3119.2.2.2.2.2)))

theorem rsp_round {N K : Nat} (h1 : 1 ≤ N) (h4 : N ≤ 4) {a : Int × List (Int × List Int)} (ha : a.1 = (N : Int)) {f : Int × List Int} {T : List Nat} (ho : OpN N f K T) {j : Nat} (hj : idx a.2 (j : Int) = some f) {r20 : List (List Int)} {x0 : List Int} (hf : idx r20 0 = some x0) (hx0 : (x0.length : Int) = ((3 * (N * N) : Nat) : Int)) {known before : Nat} (hk1 : 1 ≤ known) (hk : known ≤ 150) :
    ∀ (q i m : Nat) (s : Rst) (z : SpT),i + q = known ^ K → q < m → SpS s z → Gsr N known s →
      ∃ (i' : Int) (z' : SpT),SpS ((List.range' i q).foldl (rstp N K T known before) s) z' ∧ iter (rsS a majC patI r20 (known : Int) (before : Int) (j : Int)) m ((i : Int),z) = some (.br (i',z')) := by
  have hK := ho.k3;have hb : N * N ≤ 16 := Nat.mul_le_mul h4 h4;have hbd := VN hk hK;have hTl := ho.len;have ef := ho.eq;have ep : YA (known : Int) f.1 = some ((known ^ K : Nat) : Int) := by rw [ef]; exact zcl rfl rfl hk1 (by omega) (by omega)
  have stop : ∀ (s : Rst) (z : SpT) (i m : Nat) (l : List Nat),(decide (z.2.2.1 < 0) && !z.2.2.2.2) = false → iter (rsS a majC patI r20 (known : Int) (before : Int) (j : Int)) (m + 1) ((i : Int),z) = some (.br ((i : Int),z)) := by
    intro s z i m l h;unfold iter;simp only [rsS,hj,obs,ep];have : (bif decide ((i : Int) < ((known ^ K : Nat) : Int)) then bif decide (z.2.2.1 < 0) then some (!z.2.2.2.2) else some false else some false) = some false := by
      cases decide ((i : Int) < ((known ^ K : Nat) : Int))
      · rfl
      · rw [ct1];cases h2 : decide (z.2.2.1 < 0)
        · rfl
        · rw [h2,Bool.true_and] at h;rw [h]; rfl
    rw [this];rfl
  intro q
  induction q with
  | zero =>
    intro i m s z hi hm hz _;obtain ⟨m,rfl⟩ : ∃ q,m = q + 1 := ⟨m - 1,by omega⟩;refine ⟨(i : Int),z,hz,?_⟩;unfold iter;simp only [rsS,hj,obs,ep];rw [show decide ((i : Int) < ((known ^ K : Nat) : Int)) = false from decide_eq_false (by omega)];rfl
  | succ q ih =>
    intro i m s z hi hm hz hs;obtain ⟨m,rfl⟩ : ∃ q,m = q + 1 := ⟨m - 1,by omega⟩;rw [List.range'_succ,List.foldl_cons];have fix : ∀ (l : List Nat) (s : Rst),s = .got ∨ s = .opn → l.foldl (rstp N K T known before) s = s := by
      intro l
      induction l with
      | nil => intro s _; rfl
      | cons x l ih => intro s h; rw [List.foldl_cons]; have : rstp N K T known before s x = s := by rcases h with rfl | rfl <;> rfl
                       rw [this]; exact ih s h
    cases s with
    | got =>
      have hz' : 0 ≤ z.2.2.1 := hz;exact ⟨(i : Int),z,by rw [show rstp N K T known before .got i = .got from rfl,fix _ _ (.inl rfl)]; exact hz,stop .got z i m [] (by rw [decide_eq_false (by omega)]; rfl)⟩
    | opn =>
      have hz' := hz.2;exact ⟨(i : Int),z,by rw [show rstp N K T known before .opn i = .opn from rfl,fix _ _ (.inr rfl)]; exact hz,stop .opn z i m [] (by rw [hz',bnt,Bool.and_false])⟩
    | run L tr =>
      have hz' := hz;obtain ⟨z1,z2,z3,z4,z5⟩ := hz;obtain ⟨g1,g2,g3,g4⟩ := hs;have hdl : ∀ d ∈ dig known K i,d < L.length := fun d hd => by have := wO hk1 K i d hd; omega
      have efr : yM (known : Int) f.1 (i : Int) (before : Int) = some (frs before (dig known K i)) := by rw [ef]; exact fresh_eq hk1 hK (by omega)
      have ear : ZD (known : Int) f.1 (i : Int) = some (NL (dig known K i)) := by rw [ef]; exact l2ArgsN (by omega) hk1 (by omega)
      have ecp : yo a.1 (f.1,f.2) (NLL ((dig known K i).map (gl L))) ((3 * (N * N) : Nat) : Int) = some (NL (cmT N (3 * (N * N)) T L (dig known K i))) := by
        have htb : ∀ t ∈ (dig known K i).map (gl L),t.length = 3 * (N * N) ∧ ∀ x ∈ t,x < N := fun t ht => by
          obtain ⟨d,hd,rfl⟩ := List.mem_map.1 ht;exact g3 _ (xm (hdl d hd))
        rw [ha,ef];exact zar h1 (by omega) hK hTl (by simp) (fun t ht => (htb t ht).1) (fun t ht => (htb t ht).2) (by omega)
      have hnext : ∃ z2,SpS (rstp N K T known before (.run L tr) i) z2 ∧ rsS a majC patI r20 (known : Int) (before : Int) (j : Int) ((i : Int),z) = some (.nx (((i + 1 : Nat) : Int),z2)) := by
        simp only [rsS,hj,obs,ep,efr,ear,z3,z5,z4,z1];rw [show decide ((i : Int) < ((known ^ K : Nat) : Int)) = true from decide_eq_true (by omega),ct1,show decide ((-1 : Int) < 0) = true from rfl,ct1,bnf,obs,ct1,ZY (by omega),ZY (by omega)];unfold rstp;simp only [];cases hfr : frs before (dig known K i)
        · rw [bnf,ct1,ct0];exact ⟨(NLL L,z.2.1,-1,(tr : Int),false),⟨rfl,z2,rfl,rfl,rfl⟩,rfl⟩
        · rw [bnt,ct0,ct1];rw [XZ (fun j => NL (gl L (ga (dig known K i) j))) (n := (dig known K i).length) (by rw [Xn]) (by rw [Yt]; omega) (fun j s hj _ => by
            rw [YN hj,obs,xA (hdl _ (yp hj)),obs])]
          rw [obs,zY,zcG];by_cases ht : tr = 100000
          · rw [if_pos ht,show decide ((100000 : Int) < ((tr + 1 : Nat) : Int)) = true from decide_eq_true (by omega),bnt,ct0];exact ⟨_,⟨(show (-1 : Int) < 0 by omega),rfl⟩,rfl⟩
          · rw [if_neg ht,show decide ((100000 : Int) < ((tr + 1 : Nat) : Int)) = false from decide_eq_false (by omega),bnf,ct1];simp only [hf,obs,hx0,ecp];have hcm := zbg (S := 3 * (N * N)) ho g3 (Yt known K i) hdl;obtain ⟨zz,a1,a2⟩ := rsp_add (k := known) h1 h4 (s := .run L (tr + 1)) (z := (NLL L,z.2.1,-1,((tr + 1 : Nat) : Int),false)) ⟨rfl,z2,rfl,rfl,rfl⟩ (show Gsr N known (.run L (tr + 1)) from ⟨g1,g2,g3,by omega⟩) hcm.1 ((j : Int),NL (dig known K i));rw [ha];have a1 : Zv (NLL L,z.2.1,-1,((tr + 1 : Nat) : Int),false) (N : Int) (majC.1,majC.2) patI (NL (cmT N (3 * (N * N)) T L (dig known K i))) ((j : Int),NL (dig known K i)) = some zz := a1;rw [a1];exact ⟨zz,a2,rfl⟩
      obtain ⟨z2',b1,b2⟩ := hnext;obtain ⟨i',z',c1,c2⟩ := ih (i + 1) m _ z2' (by omega) (by omega) b1 (zaM ho hk1 (show Gsr N known (.run L tr) from ⟨g1,g2,g3,g4⟩) i);refine ⟨i',z',c1,?_⟩;unfold iter;simp only [b2];exact c2

set_option linter.unusedVariables false

abbrev ImT := (List (List Int)) × Stp × (List (ByteArray × Bool)) × Int × Int

abbrev Im6 := Bool × ImT

abbrev ImI := Int × (List (List Int)) × ImT

def ImS (L : List (List Nat)) (tr : Nat) (z : ImT) : Prop := z.1 = NLL L ∧ z.2.1.length = L.length ∧ SeenOk z.2.2.1 L ∧ z.2.2.2.1 = (tr : Int) ∧ z.2.2.2.2 = 2

def RtR (s : Rst) (r : Im6) : Prop := match s with
  | .run _ _ => False
  | .got => r.1 = false ∧ r.2.2.2.2.2 = 1
  | .opn => r.1 = false ∧ r.2.2.2.2.2 = 3

def rsI (n : Int) (b1 : Int × List (Int × List Int)) (b0n : Int) (b0o : List (Int × List Int)) (c : Cnd) (b3 : List (List Int)) (x735 : Int × List Int) (k717 many fresh : Int) (s995 : ImI) : Option (Ctl ImI Im6) :=
  (ZB many x735.1).bind fun r1018 =>
  (bif (decide (s995.1 < r1018)) then (Zp s995.1 x735.1 many).bind fun r1021 =>
  (forC (S := Bool × (List (List Int))) (R := Bool × (List (List Int)) × (List (Int × (List Int))) × (List (ByteArray × Bool)) × Int × Int) (fun k1046 s1044 =>
  (idx r1021 k1046).bind fun x1052 =>
  (idx s995.2.2.1 x1052).bind fun x1054 =>
  (idx s1044.2 k1046).bind fun x1058 =>
  (bif s1044.1 then some (.nx (true,List.set s1044.2 (Int.toNat k1046) x1054)) else some (.nx ((decide (fresh ≤ x1052)),List.set s1044.2 (Int.toNat k1046) x1054)))) 0 (r1021.length : Int) ((fresh == 0),s995.2.1)).bind fun o1048 => after o1048 (fun r_ => some (.rt r_)) (fun s1044 =>
  (bif (!s1044.1) then some (.nx (w64 (s995.1 + 1),s1044.2,s995.2.2.1,s995.2.2.2.1,s995.2.2.2.2.1,s995.2.2.2.2.2.1,s995.2.2.2.2.2.2)) else (bif (s995.2.2.2.2.2.1 == 100000) then some (.rt (false,s995.2.2.1,s995.2.2.2.1,s995.2.2.2.2.1,s995.2.2.2.2.2.1,3)) else (idx s995.2.2.1 0).bind fun x1067 =>
  (ZQ n (x735.1,x735.2) s1044.2 (x1067.length : Int)).bind fun r1072 =>
  (zR r1072 k717 r1021 (b0n,b0o,s995.2.2.1,s995.2.2.2.1,s995.2.2.2.2.1,w64 (s995.2.2.2.2.2.1 + 1),s995.2.2.2.2.2.2) (b1.1,b1.2) (c.1,c.2) b3).bind fun r1078 =>
  (bif (!r1078.1) then some (.rt (false,r1078.2.1,r1078.2.2.1,r1078.2.2.2.1,w64 (s995.2.2.2.2.2.1 + 1),r1078.2.2.2.2)) else some (.nx (w64 (s995.1 + 1),s1044.2,r1078.2.1,r1078.2.2.1,r1078.2.2.2.1,w64 (s995.2.2.2.2.2.1 + 1),r1078.2.2.2.2)))))) else some (.br (s995.1,s995.2.1,s995.2.2.1,s995.2.2.2.1,s995.2.2.2.2.1,s995.2.2.2.2.2.1,s995.2.2.2.2.2.2)))

theorem WZ {N K k b : Nat} {T : List Nat} : ∀ (l : List Nat) (s : Rst),s = .got ∨ s = .opn → l.foldl (rstp N K T k b) s = s
  | [],s,_ => rfl
  | x :: l,s,h => by
    rw [List.foldl_cons];have : rstp N K T k b s x = s := by rcases h with rfl | rfl <;> rfl
    rw [this]; exact WZ l s h

theorem rim_round {N K : Nat} (h1 : 1 ≤ N) (h4 : N ≤ 4) {a : Int × List (Int × List Int)} (ha : a.1 = (N : Int)) {f : Int × List Int} {T : List Nat} (ho : OpN N f K T) {j known before : Nat} (hk1 : 1 ≤ known) (hk : known ≤ 150) :
    ∀ (q i m : Nat) (L : List (List Nat)) (tr : Nat) (buf : List (List Int)) (z : ImT),i + q = known ^ K → q < m → ImS L tr z → Gsr N known (.run L tr) → buf.length = K →
      match (List.range' i q).foldl (rstp N K T known before) (.run L tr) with
      | .run L' tr' => ∃ (i' : Int) (buf' : List (List Int)) (z' : ImT),ImS L' tr' z' ∧ iter (rsI a.1 a a.1 a.2 majC patI f (j : Int) (known : Int) (before : Int)) m ((i : Int),buf,z) = some (.br (i',buf',z'))
      | s => ∃ r,RtR s r ∧ iter (rsI a.1 a a.1 a.2 majC patI f (j : Int) (known : Int) (before : Int)) m ((i : Int),buf,z) = some (.rt r) := by
  have hK := ho.k3;have hb : N * N ≤ 16 := Nat.mul_le_mul h4 h4;have hbd := VN hk hK;have hTl := ho.len;have ef := ho.eq;have ep : ZB (known : Int) f.1 = some ((known ^ K : Nat) : Int) := by rw [ef]; exact UE rfl rfl hk1 (by omega) (by omega)
  intro q
  induction q with
  | zero =>
    intro i m L tr buf z hi hm hz _ _;obtain ⟨m,rfl⟩ : ∃ q,m = q + 1 := ⟨m - 1,by omega⟩;refine ⟨(i : Int),buf,z,hz,?_⟩;unfold iter;simp only [rsI,obs,ep];rw [show decide ((i : Int) < ((known ^ K : Nat) : Int)) = false from decide_eq_false (by omega)];rfl
  | succ q ih =>
    intro i m L tr buf z hi hm hz hs hbuf;obtain ⟨m,rfl⟩ : ∃ q,m = q + 1 := ⟨m - 1,by omega⟩;rw [List.range'_succ,List.foldl_cons];have hz' := hz;have hs' := hs;obtain ⟨z1,z2,z3,z4,z5⟩ := hz;obtain ⟨g1,g2,g3,g4⟩ := hs;have hdl : ∀ d ∈ dig known K i,d < L.length := fun d hd => by have := wO hk1 K i d hd; omega
    have ear : Zp (i : Int) f.1 (known : Int) = some (NL (dig known K i)) := by rw [ef]; exact argsN (by omega) hk1 (by omega)
    have htb : ∀ t ∈ (dig known K i).map (gl L),t.length = 3 * (N * N) ∧ ∀ x ∈ t,x < N := fun t ht => by
      obtain ⟨d,hd,rfl⟩ := List.mem_map.1 ht;exact g3 _ (xm (hdl d hd))
    have ecp : ZQ a.1 (f.1,f.2) (NLL ((dig known K i).map (gl L))) ((3 * (N * N) : Nat) : Int) = some (NL (cmT N (3 * (N * N)) T L (dig known K i))) := by
      rw [ha,ef];exact ul h1 (by omega) hK hTl (by simp) htb (by omega)
    have hcm := zbg (S := 3 * (N * N)) ho g3 (Yt known K i) hdl;have hL1 : 1 ≤ L.length := by omega
    have e0 : idx z.1 0 = some (NL (gl L 0)) := by rw [z1,show (0 : Int) = ((0 : Nat) : Int) from rfl,xA (by omega)]
    have el : ((NL (gl L 0)).length : Int) = ((3 * (N * N) : Nat) : Int) := by rw [Xn,(g3 _ (xm hL1)).1]
    have hlt : decide ((i : Int) < ((known ^ K : Nat) : Int)) = true := decide_eq_true (by omega);have hfi := zdb (R := Im6) (L := L) (ds := dig known K i) (b := before) (buf := buf) (rows := z.1) z1 (by rw [hbuf,Yt]) hdl (by rw [Yt]; omega);have hst : rsI a.1 a a.1 a.2 majC patI f (j : Int) (known : Int) (before : Int) ((i : Int),buf,z) = (bif (!frs before (dig known K i)) then some (.nx (((i + 1 : Nat) : Int),NLL ((dig known K i).map (gl L)),z)) else (bif (((tr : Nat) : Int) == 100000) then some (.rt (false,z.1,z.2.1,z.2.2.1,(tr : Int),3)) else 
  (zR (NL (cmT N (3 * (N * N)) T L (dig known K i))) (j : Int) (NL (dig known K i)) (a.1,a.2,z.1,z.2.1,z.2.2.1,((tr + 1 : Nat) : Int),2) a majC patI).bind fun r1078 =>
  (bif (!r1078.1) then some (.rt (false,r1078.2.1,r1078.2.2.1,r1078.2.2.2.1,((tr + 1 : Nat) : Int),r1078.2.2.2.2)) else some (.nx (((i + 1 : Nat) : Int),NLL ((dig known K i).map (gl L)),r1078.2.1,r1078.2.2.1,r1078.2.2.2.1,((tr + 1 : Nat) : Int),r1078.2.2.2.2))))) := by
      simp only [rsI,ep,obs,hlt,ct1,ear];rw [hfi];simp only [obs,zY,e0,el,ecp,ZY (show i + 1 ≤ 9223372036854775807 by omega),z4,z5,ZY (show tr + 1 ≤ 9223372036854775807 by omega)];have hzz : z = (z.1,z.2.1,z.2.2.1,(tr : Int),2) := by rw [← z4,← z5]
      conv => rhs; rw [hzz]
    cases hfr : frs before (dig known K i)
    · have er : rstp N K T known before (.run L tr) i = .run L tr := by unfold rstp; simp only [hfr,ct0]
      rw [hfr,bnf,ct1] at hst;rw [er];have := ih (i + 1) m L tr (NLL ((dig known K i).map (gl L))) z (by omega) (by omega) hz' hs' (by simp);unfold iter;simp only [hst];exact this
    rw [hfr,bnt,ct0] at hst;by_cases ht : tr = 100000
    · have er : rstp N K T known before (.run L tr) i = .opn := by unfold rstp; simp only [hfr,ct1,if_pos ht]
      rw [er,WZ _ _ (.inr rfl)];rw [show (((tr : Nat) : Int) == 100000) = true by simp; omega,ct1] at hst;refine ⟨(false,z.1,z.2.1,z.2.2.1,(tr : Int),3),⟨rfl,rfl⟩,?_⟩;unfold iter;simp only [hst]
    · have er : rstp N K T known before (.run L tr) i = radd N (.run L (tr + 1)) (cmT N (3 * (N * N)) T L (dig known K i)) := by unfold rstp; simp only [hfr,ct1,if_neg ht]
      rw [show (((tr : Nat) : Int) == 100000) = false by simp; omega,ct0] at hst;have hg2 : Gsr N known (.run L (tr + 1)) := ⟨g1,g2,g3,by omega⟩;obtain ⟨r,a1,a2⟩ := rim_add (a := a) (a1 := a.1) (a2 := a.2) h1 h4 hg2 ha z1 z2 z3 hcm (j : Int) (st := NL (dig known K i)) (by rw [Xn,Yt]; omega) ((tr + 1 : Nat) : Int);have hgd := wU hg2 hcm;rw [er];rw [a1,obs] at hst;cases hra : radd N (.run L (tr + 1)) (cmT N (3 * (N * N)) T L (dig known K i)) with
      | got =>
        rw [hra] at a2;rw [WZ _ _ (.inl rfl)];obtain ⟨b1,b2⟩ := a2;rw [b1,bnf,ct1] at hst;refine ⟨(false,r.2.1,r.2.2.1,r.2.2.2.1,((tr + 1 : Nat) : Int),r.2.2.2.2),⟨rfl,b2⟩,?_⟩;unfold iter;simp only [hst]
      | opn =>
        rw [hra] at a2;rw [WZ _ _ (.inr rfl)];obtain ⟨b1,b2⟩ := a2;rw [b1,bnf,ct1] at hst;refine ⟨(false,r.2.1,r.2.2.1,r.2.2.2.1,((tr + 1 : Nat) : Int),r.2.2.2.2),⟨rfl,b2⟩,?_⟩;unfold iter;simp only [hst]
      | run L2 tr2 =>
        have htr : tr2 = tr + 1 := by
          unfold radd at hra;simp only [] at hra;split at hra
          · cases hra; rfl
          · split at hra
            · cases hra
            · split at hra
              · cases hra
              · cases hra; rfl
        rw [hra] at a2 hgd;obtain ⟨b1,b2,b3,b4,b5⟩ := a2;rw [b1,bnt,ct0] at hst;have := ih (i + 1) m L2 tr2 (NLL ((dig known K i).map (gl L))) (r.2.1,r.2.2.1,r.2.2.2.1,((tr + 1 : Nat) : Int),r.2.2.2.2) (by omega) (by omega) ⟨b2,b3,b4,by rw [htr],b5⟩ hgd (by simp);unfold iter;simp only [hst];exact this

set_option linter.unusedVariables false

def rops (N k b : Nat) (s : Rst) (f : Int × List Int) : Rst := (List.range (k ^ f.1.toNat)).foldl (rstp N f.1.toNat (f.2.map Int.toNat) k b) s

theorem zbf {N k b K : Nat} {f : Int × List Int} {T : List Nat} (ho : OpN N f K T) (s : Rst) : rops N k b s f = (List.range (k ^ K)).foldl (rstp N K T k b) s := by
  unfold rops;rw [ho.eq];simp only [itn,wj]

theorem Uh {N K k b : Nat} {f : Int × List Int} {T : List Nat} (ho : OpN N f K T) (hk : 1 ≤ k) : ∀ (l : List Nat) {s : Rst},Gsr N k s → Gsr N k (l.foldl (rstp N K T k b) s)
  | [],s,h => h
  | x :: l,s,h => by rw [List.foldl_cons]; exact Uh ho hk l (zaM ho hk h x)

theorem ug {N k b K : Nat} {f : Int × List Int} {T : List Nat} (ho : OpN N f K T) (hk : 1 ≤ k) {s : Rst} (h : Gsr N k s) : Gsr N k (rops N k b s f) := by rw [zbf ho]; exact Uh ho hk _ h

theorem UQ {N k b : Nat} (hk : 1 ≤ k) : ∀ (l : List (Int × List Int)) {s : Rst},(∀ f ∈ l,∃ K T,OpN N f K T) → Gsr N k s → Gsr N k (l.foldl (rops N k b) s)
  | [],s,_,h => h
  | f :: l,s,hl,h => by
    obtain ⟨K,T,ho⟩ := hl f (by simp);rw [List.foldl_cons]; exact UQ hk l (fun g hg => hl g (by simp [hg])) (ug ho hk h)

theorem uj {N k b : Nat} : ∀ (l : List (Int × List Int)) (s : Rst),s = .got ∨ s = .opn → l.foldl (rops N k b) s = s
  | [],s,_ => rfl
  | f :: l,s,h => by rw [List.foldl_cons]; unfold rops; rw [WZ _ _ h]; exact uj l s h

theorem rsp_ops {N : Nat} (h1 : 1 ≤ N) (h4 : N ≤ 4) {a : Int × List (Int × List Int)} (ha : a.1 = (N : Int)) (hops : ∀ f ∈ a.2,∃ K T,OpN N f K T) {r20 : List (List Int)} {x0 : List Int} (hf : idx r20 0 = some x0) (hx0 : (x0.length : Int) = ((3 * (N * N) : Nat) : Int)) {known before : Nat} (hk1 : 1 ≤ known) (hk : known ≤ 150) :
    ∀ (q j : Nat) (s : Rst) (z : SpT),j + q = a.2.length → SpS s z → Gsr N known s →
      ∃ z',SpS ((a.2.drop j).foldl (rops N known before) s) z' ∧ forI (S := SpT) (R := SpT) (fun k2896 s2894 => (iter (rsS a majC patI r20 (known : Int) (before : Int) k2896) FU (0,s2894)).bind fun o3123 => after o3123 (fun r_ => some (.rt r_)) (fun s3119 => some (.nx s3119.2))) q (j : Int) z = some (.br z') := by
  intro q
  induction q with
  | zero => intro j s z hj hz _; exact ⟨z,by rw [List.drop_of_length_le (by omega)]; exact hz,rfl⟩
  | succ q ih =>
    intro j s z hj hz hs;have hjl : j < a.2.length := by omega
    obtain ⟨K,T,ho⟩ := hops _ (List.getElem_mem hjl);have hK := ho.k3;have hbd := VN hk hK;rw [List.drop_eq_getElem_cons hjl,List.foldl_cons];obtain ⟨i',z1,a1,a2⟩ := rsp_round (a := a) h1 h4 ha ho (j := j) (by rw [yv,gge hjl]) hf hx0 hk1 hk (before := before) (known ^ K) 0 FU s z (by omega) (by unfold FU; omega) hz hs;rw [← List.range_eq_range',← zbf ho] at a1;unfold forI;rw [show ((0 : Nat) : Int) = 0 from rfl] at a2;simp only [a2,obs,zY];exact ih (j + 1) _ z1 (by omega) a1 (ug ho hk1 hs)

theorem rim_ops {N : Nat} (h1 : 1 ≤ N) (h4 : N ≤ 4) {a : Int × List (Int × List Int)} (ha : a.1 = (N : Int)) (hops : ∀ f ∈ a.2,∃ K T,OpN N f K T) {known before : Nat} (hk1 : 1 ≤ known) (hk : known ≤ 150) :
    ∀ (q j : Nat) (L : List (List Nat)) (tr : Nat) (z : ImT),j + q = a.2.length → ImS L tr z → Gsr N known (.run L tr) →
      match (a.2.drop j).foldl (rops N known before) (.run L tr) with
      | .run L' tr' => ∃ z',ImS L' tr' z' ∧ forI (S := ImT) (R := Im6) (fun k717 s715 =>
  (idx a.2 k717).bind fun x735 =>
  (mks x735.1 ([] : List Int)).bind fun y742 =>
  (iter (rsI a.1 a a.1 a.2 majC patI x735 k717 (known : Int) (before : Int)) FU (0,y742,s715)).bind fun o999 => after o999 (fun r_ => some (.rt r_)) (fun s995 =>
  some (.nx s995.2.2))) q (j : Int) z = some (.br z')
      | s => ∃ r,RtR s r ∧ forI (S := ImT) (R := Im6) (fun k717 s715 =>
  (idx a.2 k717).bind fun x735 =>
  (mks x735.1 ([] : List Int)).bind fun y742 =>
  (iter (rsI a.1 a a.1 a.2 majC patI x735 k717 (known : Int) (before : Int)) FU (0,y742,s715)).bind fun o999 => after o999 (fun r_ => some (.rt r_)) (fun s995 =>
  some (.nx s995.2.2))) q (j : Int) z = some (.rt r) := by
  intro q
  induction q with
  | zero => intro j L tr z hj hz _; rw [List.drop_of_length_le (by omega)]; exact ⟨z,hz,rfl⟩
  | succ q ih =>
    intro j L tr z hj hz hs;have hjl : j < a.2.length := by omega
    obtain ⟨K,T,ho⟩ := hops _ (List.getElem_mem hjl);have hK := ho.k3;have hK1 : (a.2[j]).1 = (K : Int) := by rw [ho.eq]
    have hbd := VN hk hK;rw [List.drop_eq_getElem_cons hjl,List.foldl_cons];have hr := rim_round (a := a) h1 h4 ha ho (j := j) hk1 hk (before := before) (known ^ K) 0 FU L tr (List.replicate K []) z (by omega) (by unfold FU; omega) hz hs (by simp);rw [← List.range_eq_range',← zbf ho,show ((0 : Nat) : Int) = 0 from rfl] at hr;have hgd := ug (b := before) ho hk1 hs;unfold forI;simp only [yv,gge hjl,obs,we hK1 (show K ≤ 4294967296 by omega)];cases hop : rops N known before (.run L tr) a.2[j] with
    | got =>
      rw [hop] at hr;obtain ⟨r,c1,c2⟩ := hr;rw [uj _ _ (.inl rfl)];exact ⟨r,c1,by rw [c2]; rfl⟩
    | opn =>
      rw [hop] at hr;obtain ⟨r,c1,c2⟩ := hr;rw [uj _ _ (.inr rfl)];exact ⟨r,c1,by rw [c2]; rfl⟩
    | run L2 tr2 =>
      rw [hop] at hr hgd;obtain ⟨i',buf',z',c1,c2⟩ := hr;simp only [c2,obs,zY];have := ih (j + 1) L2 tr2 z' (by omega) c1 hgd;exact this

theorem UO {A R : Type} (f : Int → A → Option (Ctl A R)) (s : A) {n : Nat} (hn : n ≤ 1000000) : forC f 0 (n : Int) s = forI f n 0 s := by
  unfold forC;rw [show decide (-9223372036854775808 ≤ (0 : Int)) = true by decide,show decide ((n : Int) ≤ 9223372036854775807) = true by simp; omega,Bool.and_true,ct1,show ((n : Int) - 0).toNat = n by omega]

theorem rim_call {N : Nat} (h1 : 1 ≤ N) (h4 : N ≤ 4) {a : Int × List (Int × List Int)} (ha : a.1 = (N : Int)) (hops : ∀ f ∈ a.2,∃ K T,OpN N f K T) (hol : a.2.length ≤ 100) {known before : Nat} (hk1 : 1 ≤ known) (hk : known ≤ 150) {L : List (List Nat)} {tr : Nat} {z : ImT} (hz : ImS L tr z) (hs : Gsr N known (.run L tr)) :
    match a.2.foldl (rops N known before) (.run L tr) with
      | .run L' tr' => ∃ z',ImS L' tr' z' ∧ zX (before : Int) (known : Int) (a.1,a.2,z) a majC patI = some (true,z')
      | s => ∃ r,RtR s r ∧ zX (before : Int) (known : Int) (a.1,a.2,z) a majC patI = some r := by
  have hr := rim_ops (before := before) h1 h4 ha hops hk1 hk a.2.length 0 L tr z (by omega) hz hs;rw [List.drop_zero,show ((0 : Nat) : Int) = 0 from rfl] at hr;have e : zX (before : Int) (known : Int) (a.1,a.2,z) a majC patI = (forI (S := ImT) (R := Im6) (fun k717 s715 =>
  (idx a.2 k717).bind fun x735 =>
  (mks x735.1 ([] : List Int)).bind fun y742 =>
  (iter (rsI a.1 a a.1 a.2 majC patI x735 k717 (known : Int) (before : Int)) FU (0,y742,s715)).bind fun o999 => after o999 (fun r_ => some (.rt r_)) (fun s995 =>
  some (.nx s995.2.2))) a.2.length 0 z).bind fun o719 => after o719 (fun r_ => some r_) (fun s715 => some (true,s715)) := by
    rw [← UO _ _ (by omega)];rfl
  rw [e];cases hop : a.2.foldl (rops N known before) (.run L tr) with
  | got =>
    rw [hop] at hr;obtain ⟨r,c1,c2⟩ := hr;exact ⟨r,c1,by rw [c2]; rfl⟩
  | opn =>
    rw [hop] at hr;obtain ⟨r,c1,c2⟩ := hr;exact ⟨r,c1,by rw [c2]; rfl⟩
  | run L2 tr2 =>
    rw [hop] at hr;obtain ⟨z',c1,c2⟩ := hr;exact ⟨z',c1,by rw [c2]; rfl⟩

set_option linter.unusedVariables false

abbrev OutT := Option ((Int × (List (Int × (List Int)))) × Unit × ImT)

def VM (a : Int × List (Int × List Int)) (r20 : List (List Int)) (s : SpJ) : Option (Ctl SpJ SpT) :=
  (bif (((decide (s.1 < (s.2.1.length : Int))) && (decide (s.2.2.2.1 < 0))) && (!s.2.2.2.2.2)) then (forC (S := SpT) (R := SpT) (fun k2896 s2894 => (iter (rsS a majC patI r20 (s.2.1.length : Int) s.1 k2896) FU (0,s2894)).bind fun o3123 => after o3123 (fun r_ => some (.rt r_)) (fun s3119 => some (.nx s3119.2))) 0 (a.2.length : Int) s.2).bind fun o2898 => after o2898 (fun r_ => some (.rt r_)) (fun s2894 =>
  some (.nx ((s.2.1.length : Int),s2894))) else some (.br s))

def Vj (a : Int × List (Int × List Int)) (s132 : Int × ImT) : Option (Ctl (Int × ImT) OutT) :=
  (bif (decide (s132.1 < (s132.2.1.length : Int))) then (zX s132.1 (s132.2.1.length : Int) (a.1,a.2,s132.2) a majC patI).bind fun r154 =>
  (bif (!r154.1) then some (.rt (some (a,(),r154.2))) else some (.nx ((s132.2.1.length : Int),r154.2))) else some (.br s132))

theorem rs_rounds {N : Nat} (h1 : 1 ≤ N) (h4 : N ≤ 4) {a : Int × List (Int × List Int)} (ha : a.1 = (N : Int)) (hops : ∀ f ∈ a.2,∃ K T,OpN N f K T) (hol : a.2.length ≤ 100) {r20 : List (List Int)} {x0 : List Int} (hf : idx r20 0 = some x0) (hx0 : (x0.length : Int) = ((3 * (N * N) : Nat) : Int)) :
    ∀ (q before m m' : Nat) (L : List (List Nat)) (tr : Nat) (z : SpT) (zi : ImT),151 ≤ before + q → q + 1 < m → q + 1 < m' → SpS (.run L tr) z → ImS L tr zi → Gsr N 1 (.run L tr) → before ≤ L.length →
      ∃ s',(∃ (b : Int) (z' : SpT),SpS s' z' ∧ iter (VM a r20) m ((before : Int),z) = some (.br (b,z'))) ∧ (match s' with
        | .run L' tr' => ∃ (b : Int) (z' : ImT),ImS L' tr' z' ∧ iter (Vj a) m' ((before : Int),zi) = some (.br (b,z'))
        | s => ∃ r : Im6,RtR s r ∧ iter (Vj a) m' ((before : Int),zi) = some (.rt (some (a,(),r.2)))) := by
  intro q
  induction q with
  | zero => intro before m m' L tr z zi hq _ _ _ _ hg hb; have := hg.2.1; omega
  | succ q ih =>
    intro before m m' L tr z zi hq hm hm' hz hzi hg hb;obtain ⟨m,rfl⟩ : ∃ q,m = q + 1 := ⟨m - 1,by omega⟩;obtain ⟨m',rfl⟩ : ∃ q,m' = q + 1 := ⟨m' - 1,by omega⟩;have hz' := hz;have hzi' := hzi;obtain ⟨z1,z2,z3,z4,z5⟩ := hz;have hzl : z.1.length = L.length := by rw [z1,yw]
    have hzil : zi.1.length = L.length := by rw [hzi.1,yw]
    obtain ⟨g1,g2,g3,g4⟩ := hg;have hz3 : decide (z.2.2.1 < 0) = true := decide_eq_true (by omega);by_cases hlt : before < L.length
    case neg =>
      refine ⟨.run L tr,⟨(before : Int),z,hz',?_⟩,⟨(before : Int),zi,hzi',?_⟩⟩
      · unfold iter;simp only [VM,hzl];rw [show decide ((before : Int) < (L.length : Int)) = false from decide_eq_false (by omega),Bool.false_and,Bool.false_and,ct0]
      · unfold iter;simp only [Vj,hzil];rw [show decide ((before : Int) < (L.length : Int)) = false from decide_eq_false (by omega),ct0]
    have hgk : Gsr N L.length (.run L tr) := ⟨Nat.le_refl _,g2,g3,g4⟩;have hdt : decide ((before : Int) < (L.length : Int)) = true := decide_eq_true (by omega);obtain ⟨zs,s1,s2⟩ := rsp_ops (a := a) (before := before) h1 h4 ha hops hf hx0 g1 g2 a.2.length 0 (.run L tr) z (by omega) hz' hgk;have i1 := rim_call (a := a) (before := before) h1 h4 ha hops hol g1 g2 hzi' hgk;rw [List.drop_zero] at s1;rw [show ((0 : Nat) : Int) = 0 from rfl] at s2;have hgr := UQ (b := before) g1 a.2 hops hgk;have hspec : VM a r20 ((before : Int),z) = some (.nx ((L.length : Int),zs)) := by
      simp only [VM,hzl,hdt,hz3,z5,bnf,Bool.and_true,ct1];rw [UO _ _ (by omega),s2]; rfl
    have stop : ∀ (b : Int) (zs : SpT) (m : Nat),((decide (zs.2.2.1 < 0)) && !zs.2.2.2.2) = false → iter (VM a r20) (m + 1) (b,zs) = some (.br (b,zs)) := fun b zs m h => by
      unfold iter;simp only [VM];rw [Bool.and_assoc,h,Bool.and_false,ct0]
    obtain ⟨m2,rfl⟩ : ∃ q,m = q + 1 := ⟨m - 1,by omega⟩;cases hr : a.2.foldl (rops N L.length before) (.run L tr) with
    | got =>
      rw [hr] at s1 i1;obtain ⟨r,c1,c2⟩ := i1;have s1' : 0 ≤ zs.2.2.1 := s1;refine ⟨.got,⟨(L.length : Int),zs,s1,?_⟩,r,c1,?_⟩
      · have := stop (L.length : Int) zs m2 (by rw [decide_eq_false (by omega)]; rfl);rw [← this]
        conv => lhs; unfold iter
        simp only [hspec]
      · unfold iter;simp only [Vj,hzil,hdt,ct1,c2,obs,c1.1,bnf]
    | opn =>
      rw [hr] at s1 i1;obtain ⟨r,c1,c2⟩ := i1;have s1' := s1.2;refine ⟨.opn,⟨(L.length : Int),zs,s1,?_⟩,r,c1,?_⟩
      · have := stop (L.length : Int) zs m2 (by rw [s1',bnt,Bool.and_false]);rw [← this]
        conv => lhs; unfold iter
        simp only [hspec]
      · unfold iter;simp only [Vj,hzil,hdt,ct1,c2,obs,c1.1,bnf]
    | run L2 tr2 =>
      rw [hr] at s1 i1 hgr;obtain ⟨zi2,c1,c2⟩ := i1;have hgr' := hgr;obtain ⟨k1,k2,k3,k4⟩ := hgr;obtain ⟨s',⟨b,z',d1,d2⟩,d3⟩ := ih L.length (m2 + 1) m' L2 tr2 zs zi2 (by omega) (by omega) (by omega) s1 c1 (show Gsr N 1 (.run L2 tr2) from ⟨by omega,k2,k3,k4⟩) k1;have himpl : iter (Vj a) (m' + 1) ((before : Int),zi) = iter (Vj a) m' ((L.length : Int),zi2) := by
        conv => lhs; unfold iter
        simp only [Vj,hzil,hdt,ct1,c2,obs,bnt,ct0]
      refine ⟨s',⟨b,z',d1,?_⟩,?_⟩
      · rw [← d2]
        conv => lhs; unfold iter
        simp only [hspec]
      · rw [himpl]; exact d3

theorem rsp_first {N : Nat} (h1 : 1 ≤ N) (h4 : N ≤ 4) {F : List (List Nat)} (hF : ∀ t ∈ F,t.length = 3 * (N * N) ∧ ∀ x ∈ t,x < N) (hFl : F.length = 3) :
    ∀ (q j m : Nat) (s : Rst) (z : SpT),j + q = 3 → q < m → SpS s z → Gsr N 0 s → ∃ (z' : SpT),SpS ((F.drop j).foldl (radd N) s) z' ∧ iter (S := SpJ) (R := SpT) (fun s160 =>
  (bif (decide (s160.1 < ((NLL F).length : Int))) then (idx (NLL F) s160.1).bind fun x178 =>
  (Zv s160.2 (N : Int) majC patI x178 ((-1),[s160.1])).bind fun r185 =>
  some (.nx (w64 (s160.1 + 1),r185)) else some (.br s160))) m ((j : Int),z) = some (.br (3,z')) := by
  intro q
  induction q with
  | zero =>
    intro j m s z hj hm hz _;obtain ⟨m,rfl⟩ : ∃ q,m = q + 1 := ⟨m - 1,by omega⟩;refine ⟨z,by rw [List.drop_of_length_le (by omega)]; exact hz,?_⟩;obtain rfl : j = 3 := by omega
    unfold iter;rw [yw,hFl];rfl
  | succ q ih =>
    intro j m s z hj hm hz hs;obtain ⟨m,rfl⟩ : ∃ q,m = q + 1 := ⟨m - 1,by omega⟩;have hjl : j < F.length := by omega
    have ht := hF _ (List.getElem_mem hjl);rw [List.drop_eq_getElem_cons hjl,List.foldl_cons];obtain ⟨z2,a1,a2⟩ := rsp_add h1 h4 hz hs ht.1 ((-1),[(j : Int)]);have := ih (j + 1) m _ z2 (by omega) (by omega) a2 (wU hs ht);unfold iter;simp only [xA hjl,← Yf hjl] at *;rw [show decide ((j : Int) < ((NLL F).length : Int)) = true from decide_eq_true (by rw [yw]; omega),ct1,obs,a1,obs,ZY (by omega)];exact this

set_option linter.unusedVariables false

abbrev Im4 := (List (List Int)) × Stp × (List (ByteArray × Bool)) × Int

theorem VS {N : Nat} : ∀ (l : List (List Nat)) (s : Rst),s = .got ∨ s = .opn → l.foldl (radd N) s = s
  | [],s,_ => rfl
  | t :: l,s,h => by
    rw [List.foldl_cons];have : radd N s t = s := by rcases h with rfl | rfl <;> rfl
    rw [this]; exact VS l s h

theorem radd_tr {N tr tr2 : Nat} {L L2 : List (List Nat)} {t : List Nat} (h : radd N (.run L tr) t = .run L2 tr2) : tr2 = tr := by
  unfold radd at h;simp only [] at h;split at h
  · cases h; rfl
  · split at h
    · cases h
    · split at h
      · cases h
      · cases h; rfl

theorem rim_first {N : Nat} (h1 : 1 ≤ N) (h4 : N ≤ 4) {a : Int × List (Int × List Int)} (ha : a.1 = (N : Int)) {F : List (List Nat)} (hF : ∀ t ∈ F,t.length = 3 * (N * N) ∧ ∀ x ∈ t,x < N) :
    ∀ (q j : Nat) (L : List (List Nat)) (z : Im4),j + q = F.length → ImS L 0 (z.1,z.2.1,z.2.2.1,0,z.2.2.2) → Gsr N 0 (.run L 0) →
      match (F.drop j).foldl (radd N) (.run L 0) with
      | .run L' tr' => ∃ z' : Im4,tr' = 0 ∧ ImS L' 0 (z'.1,z'.2.1,z'.2.2.1,0,z'.2.2.2) ∧ forI (S := Im4) (R := OutT) (fun k77 s75 =>
  (idx (NLL F) k77).bind fun x95 =>
  (zR x95 (-1) ([k77]) (a.1,a.2,s75.1,s75.2.1,s75.2.2.1,0,s75.2.2.2) a majC patI).bind fun r104 =>
  (bif (!r104.1) then some (.rt (some (a,(),r104.2.1,r104.2.2.1,r104.2.2.2.1,0,r104.2.2.2.2))) else some (.nx r104.2))) q (j : Int) z = some (.br z')
      | s => ∃ r : Im6,RtR s r ∧ forI (S := Im4) (R := OutT) (fun k77 s75 =>
  (idx (NLL F) k77).bind fun x95 =>
  (zR x95 (-1) ([k77]) (a.1,a.2,s75.1,s75.2.1,s75.2.2.1,0,s75.2.2.2) a majC patI).bind fun r104 =>
  (bif (!r104.1) then some (.rt (some (a,(),r104.2.1,r104.2.2.1,r104.2.2.2.1,0,r104.2.2.2.2))) else some (.nx r104.2))) q (j : Int) z = some (.rt (some (a,(),r.2))) := by
  intro q
  induction q with
  | zero => intro j L z hj hz _; rw [List.drop_of_length_le (by omega)]; exact ⟨z,rfl,hz,rfl⟩
  | succ q ih =>
    intro j L z hj hz hs;have hjl : j < F.length := by omega
    have ht := hF _ (List.getElem_mem hjl);rw [List.drop_eq_getElem_cons hjl,List.foldl_cons];obtain ⟨z1,z2,z3,z4,z5⟩ := hz;obtain ⟨r,a1,a2⟩ := rim_add (a := a) (a1 := a.1) (a2 := a.2) h1 h4 hs ha z1 z2 z3 ht (-1) (st := [(j : Int)]) (by simp) 0;have hgd := wU hs ht;have z5 : z.2.2.2 = 2 := z5;unfold forI;simp only [xA hjl,← Yf hjl,z5,obs] at *;rw [a1];simp only [obs];cases hra : radd N (.run L 0) (gl F j) with
    | got =>
      rw [hra] at a2;obtain ⟨b1,b2⟩ := a2;rw [VS _ _ (.inl rfl)];exact ⟨(false,r.2.1,r.2.2.1,r.2.2.2.1,0,r.2.2.2.2),⟨rfl,b2⟩,by rw [b1,bnf]; rfl⟩
    | opn =>
      rw [hra] at a2;obtain ⟨b1,b2⟩ := a2;rw [VS _ _ (.inr rfl)];exact ⟨(false,r.2.1,r.2.2.1,r.2.2.2.1,0,r.2.2.2.2),⟨rfl,b2⟩,by rw [b1,bnf]; rfl⟩
    | run L2 tr2 =>
      obtain rfl := radd_tr hra;rw [hra] at a2 hgd;obtain ⟨b1,b2,b3,b4,b5⟩ := a2;simp only [b1,bnt,ct0];exact ih (j + 1) L2 r.2 (by omega) ⟨b2,b3,b4,rfl,b5⟩ hgd

theorem zcI {a : Int × List (Int × List Int)} {N : Nat} (h1 : 1 ≤ N) (h4 : N ≤ 4) (ha : a.1 = (N : Int)) (hops : ∀ f ∈ a.2,∃ K T,OpN N f K T) (hol : a.2.length ≤ 100) :
    ∃ (z : SpT) (p : (Int × (List (Int × (List Int)))) × Unit × ImT),yG a majC = some z ∧ yn a majC = some (some p) ∧
      ((0 ≤ z.2.2.1 ∧ p.2.2.2.2.2.2 = 1) ∨ (z.2.2.1 < 0 ∧ z.2.2.2.2 = true ∧ p.2.2.2.2.2.2 = 3) ∨ (z.2.2.1 < 0 ∧ z.2.2.2.2 = false ∧ p.2.2.2.2.2.2 = 2)) := by
  obtain ⟨f1,f2,f3,f4⟩ := zcO h1 h4;have hx : 0 < (xd N).length := by omega
  have hf : idx (NLL (xd N)) 0 = some (NL (gl (xd N) 0)) := by rw [show (0 : Int) = ((0 : Nat) : Int) from rfl,xA hx]
  have hx0 : ((NL (gl (xd N) 0)).length : Int) = ((3 * (N * N) : Nat) : Int) := by rw [Xn,(f4 _ (xm hx)).1]
  obtain ⟨z1,s1,s2⟩ := rsp_first h1 h4 f4 f3 3 0 FU (.run [] 0) ([],[],-1,0,false) rfl (by unfold FU; omega) ⟨rfl,rfl,rfl,rfl,rfl⟩ ⟨by omega,by simp,(fun t ht => absurd ht (by simp)),by omega⟩;have i1 := rim_first (a := a) h1 h4 ha f4 (xd N).length 0 [] ([],[],[],2) (by omega) ⟨rfl,rfl,(fun T hT => by simp [mget]),rfl,rfl⟩ ⟨by omega,by simp,(fun t ht => absurd ht (by simp)),by omega⟩;rw [List.drop_zero] at s1 i1;rw [show ((0 : Nat) : Int) = 0 from rfl] at s2 i1;have e1 : yG a majC = ((iter (VM a (NLL (xd N))) FU (0,z1)).bind fun o2216 => after o2216 (fun r_ => some r_) (fun s2212 => some s2212.2)) := by
    unfold yG;have p1 : yA (majC.1,majC.2) = some patI := pats_spec;have p2 : YU a.1 (majC.1,majC.2) = some (NLL (xd N)) := by rw [ha]; exact f1
    rw [p1,obs,p2,obs,ha];have s2' := s2;refine Eq.trans (congrArg (fun o => Option.bind o _) s2') ?_;rw [obs,zY,← ha];rfl
  have e2 : yn a majC = ((forI (S := Im4) (R := OutT) (fun k77 s75 =>
  (idx (NLL (xd N)) k77).bind fun x95 =>
  (zR x95 (-1) ([k77]) (a.1,a.2,s75.1,s75.2.1,s75.2.2.1,0,s75.2.2.2) a majC patI).bind fun r104 =>
  (bif (!r104.1) then some (.rt (some (a,(),r104.2.1,r104.2.2.1,r104.2.2.2.1,0,r104.2.2.2.2))) else some (.nx r104.2))) (xd N).length 0 ([],[],[],2)).bind fun o79 => after o79 (fun r_ => some r_) (fun s75 =>
  (iter (Vj a) FU (0,s75.1,s75.2.1,s75.2.2.1,0,s75.2.2.2)).bind fun o136 => after o136 (fun r_ => some r_) (fun s132 =>
  some (some (a,(),s132.2))))) := by
    unfold yn;have p1 : yK (majC.1,majC.2) = some patI := pats_impl;have p2 : yx a.1 (majC.1,majC.2) = some (NLL (xd N)) := by rw [ha]; exact f2
    rw [p1,obs,p2,obs];rw [← UO _ _ (by omega),← yw (xd N)];have : ∀ {A : Type} (o : Option A),(o.bind fun r21 => some r21) = o := fun o => by cases o <;> rfl
    rw [this];rfl
  have hS : Gsr N 1 ((xd N).foldl (radd N) (.run [] 0)) := by
    have hF : ∀ (l : List (List Nat)) (s : Rst),(∀ t ∈ l,t.length = 3 * (N * N) ∧ ∀ x ∈ t,x < N) → Gsr N 1 s → Gsr N 1 (l.foldl (radd N) s) := by
      intro l
      induction l with
      | nil => intro s _ h; exact h
      | cons t l ih => intro s hl h; exact ih _ (fun u hu => hl u (by simp [hu])) (wU h (hl t (by simp)))
    cases hfl : xd N with
    | nil => rw [hfl] at f3; simp at f3
    | cons t l =>
      rw [hfl] at f4;rw [List.foldl_cons];refine hF l _ (fun u hu => f4 u (by simp [hu])) ?_;unfold radd;simp only [];rw [if_neg (by simp),if_neg (by simp)];split
      · trivial
      · refine ⟨by simp,by simp,fun u hu => ?_,by omega⟩;simp only [List.nil_append,List.mem_singleton] at hu;rw [hu]; exact f4 t (by simp)
  cases hr : (xd N).foldl (radd N) (.run [] 0) with
  | got =>
    rw [hr] at s1 i1;obtain ⟨r,c1,c2⟩ := i1;have s1' : 0 ≤ z1.2.2.1 := s1;refine ⟨z1,(a,(),r.2),?_,by rw [e2,c2]; rfl,.inl ⟨s1',c1.2⟩⟩;rw [e1];unfold FU iter;simp only [VM];rw [decide_eq_false (show ¬ z1.2.2.1 < 0 by omega),Bool.and_false,Bool.false_and,ct0];rfl
  | opn =>
    rw [hr] at s1 i1;obtain ⟨r,c1,c2⟩ := i1;obtain ⟨s1',s2'⟩ := s1;refine ⟨z1,(a,(),r.2),?_,by rw [e2,c2]; rfl,.inr (.inl ⟨s1',s2',c1.2⟩)⟩;rw [e1];unfold FU iter;simp only [VM];rw [s2',bnt,Bool.and_false,ct0];rfl
  | run L tr =>
    rw [hr] at s1 i1 hS;obtain ⟨zi,rfl,c1,c2⟩ := i1;obtain ⟨s',⟨b,z',d1,d2⟩,d3⟩ := rs_rounds (a := a) h1 h4 ha hops hol hf hx0 151 0 FU FU L 0 z1 (zi.1,zi.2.1,zi.2.2.1,0,zi.2.2.2) (by omega) (by unfold FU; omega) (by unfold FU; omega) s1 c1 hS (by omega);rw [show ((0 : Nat) : Int) = 0 from rfl] at d2 d3;have e1' : yG a majC = some z' := by rw [e1,d2]; rfl
    rw [c2,obs,zY] at e2;cases s' with
    | got =>
      obtain ⟨r,k1,k2⟩ := d3;exact ⟨z',(a,(),r.2),e1',by rw [e2,k2]; rfl,.inl ⟨d1,k1.2⟩⟩
    | opn =>
      obtain ⟨r,k1,k2⟩ := d3;exact ⟨z',(a,(),r.2),e1',by rw [e2,k2]; rfl,.inr (.inl ⟨d1.1,d1.2,k1.2⟩)⟩
    | run L2 tr2 =>
      obtain ⟨b2,zz,k1,k2⟩ := d3;obtain ⟨m1,m2,m3,m4,m5⟩ := d1;exact ⟨z',(a,(),zz),e1',by rw [e2,k2]; rfl,.inr (.inr ⟨by omega,m5,k1.2.2.2.2⟩)⟩

set_option linter.unusedVariables false

theorem Xz {X : List Nat} (h : X.Pairwise (· < ·)) : X.Nodup := h.imp fun {a b} h => by omega

theorem zaT {N : Nat} {ops : List (Int × List Int)} {C : List Nat} (hC : ∀ c ∈ C,c < N * N) (hs : C.Pairwise (· < ·)) (hcl : ∀ Y : List Nat,(∀ y ∈ Y,y ∈ C) → ∀ c ∈ clo N ops Y,c ∈ C) : Reach [clo N ops []] (nxP N ops) C := by
  have key : ∀ (n : Nat) (R : List Nat),Reach [clo N ops []] (nxP N ops) R → (∀ x ∈ R,x ∈ C) → C.length ≤ R.length + n → Reach [clo N ops []] (nxP N ops) C := by
    intro n
    induction n with
    | zero =>
      intro R hR hsub hl;have hRs := (Yb hR).2.2;have : R = C := by
        refine XE (le := fun a b => a < b) (fun x y h h' => by omega) (vb (Xz hRs) (Xz hs) fun x => ⟨hsub x,fun hx => ?_⟩) hRs hs;apply Classical.byContradiction;intro hn;have := yk (L := x :: R) (M := C) (List.nodup_cons.2 ⟨hn,Xz hRs⟩) (fun z hz => by
          rcases List.mem_cons.1 hz with rfl | hz
          · exact hx
          · exact hsub z hz)
        rw [List.length_cons] at this; omega
      rw [← this]; exact hR
    | succ n ih =>
      intro R hR hsub hl;by_cases hx : ∃ x ∈ C,x ∉ R
      · obtain ⟨x,hxC,hxR⟩ := hx;have hRs := Yb hR;have hin : ∀ y ∈ R ++ [x],y ∈ C := fun y hy => by
          rcases List.mem_append.1 hy with hy | hy
          · exact hsub y hy
          · rw [List.mem_singleton.1 hy]; exact hxC
        have hex : ∀ y ∈ R ++ [x],y ∈ clo N ops (R ++ [x]) := fun y hy => wF.2 ⟨hC y (hin y hy),.base (List.mem_map.2 ⟨y,hy,rfl⟩)⟩
        have hst : Reach [clo N ops []] (nxP N ops) (clo N ops (R ++ [x])) := by
          refine .step hR ?_;have hxl : x < (nxP N ops R).length := by rw [Vp]; exact hC x hxC
          have := zbM (N := N) (ops := ops) hxl;rw [if_neg hxR] at this;rw [← this]; exact List.getElem_mem hxl
        have hlen := yk (L := x :: R) (M := clo N ops (R ++ [x])) (List.nodup_cons.2 ⟨hxR,Xz hRs.2.2⟩) (fun z hz => by
          rcases List.mem_cons.1 hz with rfl | hz
          · exact hex z (by simp)
          · exact hex z (by simp [hz]))
        rw [List.length_cons] at hlen;exact ih _ hst (hcl _ hin) (by omega)
      · exact ih R hR hsub (by
          have := yk (L := C) (M := R) (Xz hs) (fun z hz => by
            apply Classical.byContradiction;intro h; exact hx ⟨z,hz,h⟩)
          omega)
  refine key C.length (clo N ops []) (.init (by simp)) (hcl [] (by simp)) (by omega)

theorem reach_app {N K : Nat} {ops : List (Int × List Int)} {X : List Nat} (h : Reach [clo N ops []] (nxP N ops) X) {f : Int × List Int} {T : List Nat} (hf : f ∈ ops) (ho : OpN N f K T) {cs : List Nat} (hl : cs.length = K) (hc : ∀ c ∈ cs,c ∈ X) : cd N (apT N T (cs.map (pt N)) 2) ∈ X := by
  obtain ⟨Y,rfl⟩ := zaE h;have ht : TupN N 2 (apT N T (cs.map (pt N)) 2) := Vu ho (by simpa using hl) (fun t ht => by
    obtain ⟨c,hcc,rfl⟩ := List.mem_map.1 ht;exact Wh (wF.1 (hc c hcc)).1)
  refine wF.2 ⟨zcH ht,?_⟩;rw [uy ht];refine .app hf ho (by simpa using hl) (fun t ht => ?_);obtain ⟨c,hcc,rfl⟩ := List.mem_map.1 ht;exact (wF.1 (hc c hcc)).2

def dgl (N p : Nat) (X : List Nat) : List Nat := ((List.range N).filter fun u => X.any fun c => ga (pt N c) p == u).map fun u => u * N + u

theorem vh {N p : Nat} {X : List Nat} {d : Nat} : d ∈ dgl N p X ↔ ∃ u,u < N ∧ (∃ c ∈ X,ga (pt N c) p = u) ∧ d = u * N + u := by
  unfold dgl;rw [List.mem_map];constructor
  · rintro ⟨u,hu,rfl⟩;rw [List.mem_filter,List.mem_range,List.any_eq_true] at hu;obtain ⟨h1,c,hc,h2⟩ := hu;exact ⟨u,h1,⟨c,hc,by simpa using h2⟩,rfl⟩
  · rintro ⟨u,h1,⟨c,hc,h2⟩,rfl⟩;exact ⟨u,by rw [List.mem_filter,List.mem_range,List.any_eq_true]; exact ⟨h1,c,hc,by simpa using h2⟩,rfl⟩

theorem dgl_asc {N p : Nat} {X : List Nat} : (dgl N p X).Pairwise (· < ·) := by
  unfold dgl;rw [List.pairwise_map];exact (List.Pairwise.filter _ List.pairwise_lt_range).imp fun {a b} h => by
    have := Nat.mul_le_mul_right N (Nat.le_of_lt h); omega

theorem dgl_reach {N p : Nat} {ops : List (Int × List Int)} {X : List Nat} (hp : p < 2) (h : Reach [clo N ops []] (nxP N ops) X) : Reach [clo N ops []] (nxP N ops) (dgl N p X) := by
  have hX := Yb h;refine zaT (fun c hc => ?_) dgl_asc (fun Y hY c hc => ?_)
  · obtain ⟨u,hu,_,rfl⟩ := vh.1 hc;exact lin2 hu hu
  · obtain ⟨h1,h2⟩ := wF.1 hc;have key := h2.least (S := fun t => ∃ u,u < N ∧ (∃ c ∈ X,ga (pt N c) p = u) ∧ t = [u,u]) (fun t ht => by
      obtain ⟨y,hy,rfl⟩ := List.mem_map.1 ht;obtain ⟨u,hu,hh,rfl⟩ := vh.1 (hY y hy);refine ⟨u,hu,hh,?_⟩;show [(u * N + u) / N,(u * N + u) % N] = [u,u];rw [Xk hu,Xi hu]) (fun f hf K T ho ts hl ht => by
      let g : List Nat → Nat := fun t => (X.find? fun c => ga (pt N c) p == ga t 0).getD 0
      have hg : ∀ t ∈ ts,g t ∈ X ∧ ga (pt N (g t)) p = ga t 0 ∧ ga t 0 = ga t 1 ∧ ga t 0 < N := fun t htm => by
        obtain ⟨u,hu,⟨c,hcX,e⟩,rfl⟩ := ht t htm;show (X.find? fun c => ga (pt N c) p == u).getD 0 ∈ X ∧ ga (pt N ((X.find? fun c => ga (pt N c) p == u).getD 0)) p = u ∧ u = u ∧ u < N;cases hfd : X.find? fun c => ga (pt N c) p == u with
        | none =>
          rw [List.find?_eq_none] at hfd;exact absurd (by simpa using e) (hfd c hcX)
        | some d => exact ⟨List.mem_of_find?_eq_some hfd,by simpa using List.find?_some hfd,rfl,hu⟩
      have ha := reach_app h hf ho (cs := ts.map g) (by simpa using hl) (fun c hcc => by
        obtain ⟨t,htm,rfl⟩ := List.mem_map.1 hcc;exact (hg t htm).1)
      have e1 : ∀ q,q < 2 → ga (apT N T ((ts.map g).map (pt N)) 2) q = ga T (ix N 0 ((ts.map g).map fun c => ga (pt N c) q)) := fun q hq => by
        rw [Ue];have : q = 0 ∨ q = 1 := by omega
        rcases this with rfl | rfl
        · show ga T (ix N 0 (((ts.map g).map (pt N)).map fun t => ga t 0)) = _;rw [List.map_map]; rfl
        · show ga T (ix N 0 (((ts.map g).map (pt N)).map fun t => ga t 1)) = _;rw [List.map_map]; rfl
      have e0 : (ts.map g).map (fun c => ga (pt N c) p) = ts.map fun t => ga t 0 := by
        rw [List.map_map]; exact List.map_congr_left fun t htm => (hg t htm).2.1
      have e2 : (ts.map fun t => ga t 1) = ts.map fun t => ga t 0 := List.map_congr_left fun t htm => (hg t htm).2.2.1.symm
      have hlt : ga T (ix N 0 (ts.map fun t => ga t 0)) < N := by
        refine ho.lt _ (yp ?_);rw [ho.len];refine Xe (fun y hy => ?_) (by simpa using hl);obtain ⟨t,htm,rfl⟩ := List.mem_map.1 hy;exact (hg t htm).2.2.2
      have htp : TupN N 2 (apT N T ((ts.map g).map (pt N)) 2) := Vu ho (by simpa using hl) (fun t htt => by
        obtain ⟨c,hcc,rfl⟩ := List.mem_map.1 htt;obtain ⟨t',htm,rfl⟩ := List.mem_map.1 hcc;exact Wh (hX.1 _ (hg t' htm).1))
      refine ⟨ga T (ix N 0 (ts.map fun t => ga t 0)),hlt,⟨_,ha,?_⟩,?_⟩
      · rw [uy htp,e1 p hp,e0]
      · rw [Ue,e2])
    obtain ⟨u,hu,hh,e⟩ := key;refine vh.2 ⟨u,hu,hh,?_⟩;have : cd N (pt N c) = cd N [u,u] := by rw [e]
    rw [UA] at this;exact this

set_option linter.unusedVariables false

def dd (x y z : Nat) : Nat := if x = y then z else x

def dsN (N : Nat) : List Nat := (List.range (N * N * N)).map fun k => dd (k / N / N % N) (k / N % N) (k % N)

theorem discT_N (N : Nat) : discT false N = NL (dsN N) := by
  unfold discT dsN NL;rw [List.map_map];refine List.map_congr_left fun k _ => ?_
  show _ = ((dd (k / N / N % N) (k / N % N) (k % N) : Nat) : Int);unfold dd;by_cases e : k / N / N % N = k / N % N
  · rw [if_pos e,e,beq_self_eq_true,if_neg (by simp)]
  · rw [if_neg e,show (k / N / N % N == k / N % N) = false by simpa using e]; rfl

theorem dsN_at {N x y z : Nat} (hx : x < N) (hy : y < N) (hz : z < N) : ga (dsN N) (ix N 0 [x,y,z]) = dd x y z := by
  have e : ix N 0 [x,y,z] = (x * N + y) * N + z := by simp [ix]
  have h1 : x * N + y < N * N := lin2 hx hy;have h2 : (x * N + y) * N + z < N * N * N := lin2 h1 hz;unfold dsN;rw [e,YT (by simpa using h2),List.getElem_map,List.getElem_range,Xk hz,Xk hy,Nat.mod_eq_of_lt hx,Xi hy,Xi hz]

theorem ds_op {N : Nat} (h1 : 1 ≤ N) : OpN N (3,discT false N) 3 (dsN N) := by
  refine ⟨by rw [discT_N]; rfl,by omega,by simp [dsN,Nat.pow_succ],fun x hx => ?_⟩;obtain ⟨k,_,rfl⟩ := List.mem_map.1 hx;unfold dd;split <;> exact Nat.mod_lt _ (by omega)

def ddc (N p q r : Nat) : Nat := dd (p / N) (q / N) (r / N) * N + dd (p % N) (q % N) (r % N)

theorem Uf {N : Nat} {X : List Nat} (hN : 1 ≤ N) (hX : ∀ x ∈ X,x < N * N) : yV N 3 (dsN N) X = true ↔ ∀ p ∈ X,∀ q ∈ X,∀ r ∈ X,ddc N p q r ∈ X := by
  have key : ∀ i j k,i < X.length → j < X.length → k < X.length → cdA N (dsN N) X [i,j,k] = ddc N (ga X i) (ga X j) (ga X k) := fun i j k hi hj hk => by
    have a1 := hX _ (yp hi);have a2 := hX _ (yp hj);have a3 := hX _ (yp hk);have e1 : ga (dsN N) (ix N 0 ([i,j,k].map fun x => ga X x / N)) = dd (ga X i / N) (ga X j / N) (ga X k / N) := dsN_at (Nat.div_lt_of_lt_mul a1) (Nat.div_lt_of_lt_mul a2) (Nat.div_lt_of_lt_mul a3);have e2 : ga (dsN N) (ix N 0 ([i,j,k].map fun x => ga X x % N)) = dd (ga X i % N) (ga X j % N) (ga X k % N) := dsN_at (Nat.mod_lt _ hN) (Nat.mod_lt _ hN) (Nat.mod_lt _ hN);rw [cdA_eq,e1,e2]; rfl
  rw [vN];constructor
  · intro H p hp q hq r hr;obtain ⟨i,hi,rfl⟩ := List.mem_iff_getElem.1 hp;obtain ⟨j,hj,rfl⟩ := List.mem_iff_getElem.1 hq;obtain ⟨k,hk,rfl⟩ := List.mem_iff_getElem.1 hr;have hL : 1 ≤ X.length := by omega
    have hd : ∀ x ∈ [i,j,k],x < X.length := by
      intro x hx;simp only [List.mem_cons,List.not_mem_nil,or_false] at hx;rcases hx with rfl | rfl | rfl <;> assumption
    have := H (ix X.length 0 [i,j,k]) (Xe hd rfl);rw [zbw hL 3 [i,j,k] rfl hd,key i j k hi hj hk,YT hi,YT hj,YT hk] at this;exact this
  · intro H i hi;have hL : 1 ≤ X.length := by
      rcases Nat.eq_zero_or_pos X.length with e | e
      · rw [e] at hi; simp at hi
      · exact e
    have hd := wO hL 3 i;obtain ⟨a,b,c,e⟩ : ∃ a b c,dig X.length 3 i = [a,b,c] := ⟨_,_,_,rfl⟩;rw [e] at hd ⊢;have ha := hd a (by simp);have hb := hd b (by simp);have hc := hd c (by simp);rw [key a b c ha hb hc];exact H _ (yp ha) _ (yp hb) _ (yp hc)

theorem Vd {N : Nat} {X : List Nat} (hX : X.Pairwise (· < ·)) : isoB N X = true ↔ 0 < X.length ∧ ∀ p ∈ X,∀ q ∈ X,(p / N = q / N ∨ p % N = q % N) → p = q := by
  unfold isoB;rw [Bool.and_eq_true,decide_eq_true_eq,and_comm];refine and_congr_right fun _ => ?_
  simp only [List.all_eq_true,List.mem_range,Bool.and_eq_true,Bool.not_eq_true',beq_eq_false_iff_ne];constructor
  · intro H p hp q hq h;obtain ⟨i,hi,rfl⟩ := List.mem_iff_getElem.1 hp;obtain ⟨j,hj,rfl⟩ := List.mem_iff_getElem.1 hq;rcases Nat.lt_trichotomy i j with hlt | rfl | hlt
    · have := H j hj i hlt;rw [YT hi,YT hj] at this;rcases h with h | h
      · exact absurd h.symm this.1
      · exact absurd h.symm this.2
    · rfl
    · have := H i hi j hlt;rw [YT hi,YT hj] at this;rcases h with h | h
      · exact absurd h this.1
      · exact absurd h this.2
  · intro H k hk j hj;have hlt : X[j] < X[k] := List.pairwise_iff_getElem.1 hX j k (by omega) hk hj;rw [YT hk,YT (show j < X.length by omega)];refine ⟨fun h => ?_,fun h => ?_⟩
    · have := H _ (List.getElem_mem hk) _ (List.getElem_mem (show j < X.length by omega)) (.inl h); omega
    · have := H _ (List.getElem_mem hk) _ (List.getElem_mem (show j < X.length by omega)) (.inr h); omega

theorem uY (N c : Nat) : c / N * N + c % N = c := by have := Nat.div_add_mod c N; rw [Nat.mul_comm]; exact this

theorem VG {N p q : Nat} (h1 : p / N = q / N) (h2 : p % N = q % N) : p = q := by rw [← uY N p,h1,h2,uY]

theorem zcQ {N : Nat} {X : List Nat} (hN : 1 ≤ N) (hk : ∀ p ∈ X,∀ q ∈ X,∀ r ∈ X,ddc N p q r ∈ X) {p q : Nat} (hp : p ∈ X) (hq : q ∈ X) (hne : p ≠ q) (he : p / N = q / N ∨ p % N = q % N) : ∀ r ∈ X,∀ s ∈ X,r / N * N + s % N ∈ X := by
  have hm : ∀ a b : Nat,(a * N + b % N) / N = a ∧ (a * N + b % N) % N = b % N := fun a b => ⟨Xk (Nat.mod_lt _ hN),Xi (Nat.mod_lt _ hN)⟩
  have d1 : ∀ a b c : Nat,a = b → dd a b c = c := fun a b c h => if_pos h
  have d2 : ∀ a b c : Nat,a ≠ b → dd a b c = a := fun a b c h => if_neg h
  intro r hr s hs;rcases he with he | he
  · have h2 : p % N ≠ q % N := fun h => hne (VG he h)
    have f : ∀ u ∈ X,u / N * N + p % N ∈ X ∧ u / N * N + q % N ∈ X := fun u hu => by
      have a1 := hk p hp q hq u hu;have a2 := hk q hq p hp u hu;unfold ddc at a1 a2;rw [d1 _ _ _ he,d2 _ _ _ h2] at a1;rw [d1 _ _ _ he.symm,d2 _ _ _ (fun h => h2 h.symm)] at a2;exact ⟨a1,a2⟩
    have g : ∀ b,s / N * N + b % N ∈ X → s % N ≠ b % N → r / N * N + s % N ∈ X := fun b hb hn => by
      have a := hk s hs _ hb r hr;unfold ddc at a;rw [(hm _ b).1,(hm _ b).2,d1 _ _ _ rfl,d2 _ _ _ hn] at a;exact a
    by_cases hsp : s % N = p % N
    · exact g q (f s hs).2 (by rw [hsp]; exact h2)
    · exact g p (f s hs).1 hsp
  · have h2 : p / N ≠ q / N := fun h => hne (VG h he)
    have f : ∀ u ∈ X,p / N * N + u % N ∈ X ∧ q / N * N + u % N ∈ X := fun u hu => by
      have a1 := hk p hp q hq u hu;have a2 := hk q hq p hp u hu;unfold ddc at a1 a2;rw [d1 _ _ _ he,d2 _ _ _ h2] at a1;rw [d1 _ _ _ he.symm,d2 _ _ _ (fun h => h2 h.symm)] at a2;exact ⟨a1,a2⟩
    have g : ∀ b,b * N + r % N ∈ X → r / N ≠ b → r / N * N + s % N ∈ X := fun b hb hn => by
      have a := hk r hr _ hb s hs;unfold ddc at a;rw [(hm _ r).1,(hm _ r).2,d2 _ _ _ hn,d1 _ _ _ rfl] at a;exact a
    by_cases hsp : r / N = p / N
    · exact g (q / N) (f r hr).2 (by rw [hsp]; exact h2)
    · exact g (p / N) (f r hr).1 hsp

set_option linter.unusedVariables false

def Wd (N : Nat) (X : List Nat) : Bool := X.all fun c => c / N == c % N

def uz (N : Nat) (X : List Nat) : Bool := !decide (0 < X.length) || !decide (X.length < N * N) || ((X.length == N) && Wd N X)

def Wv (N : Nat) (X : List Nat) : Bool := !isoB N X || (!decide (X.length < N) && (pt N (ga X 0) == [0,0]) && Wd N X)

theorem zay {N : Nat} {X : List Nat} : Wd N X = true ↔ ∀ c ∈ X,c / N = c % N := by unfold Wd; simp

theorem VZ {N : Nat} {X : List Nat} : uz N X = true ↔ X.length = 0 ∨ N * N ≤ X.length ∨ (X.length = N ∧ ∀ c ∈ X,c / N = c % N) := by
  unfold uz;simp only [Bool.or_eq_true,Bool.and_eq_true,Bool.not_eq_true',decide_eq_false_iff_not,beq_iff_eq,zay];constructor
  · rintro ((h | h) | h)
    · exact .inl (by omega)
    · exact .inr (.inl (by omega))
    · exact .inr (.inr h)
  · rintro (h | h | h)
    · exact .inl (.inl (by omega))
    · exact .inl (.inr (by omega))
    · exact .inr h

theorem VY {N : Nat} {X : List Nat} : Wv N X = true ↔ (isoB N X = true → N ≤ X.length ∧ pt N (ga X 0) = [0,0] ∧ ∀ c ∈ X,c / N = c % N) := by
  unfold Wv;cases isoB N X
  · simp
  · simp only [bnt,Bool.false_or,Bool.and_eq_true,Bool.not_eq_true',decide_eq_false_iff_not,beq_iff_eq,zay,forall_const];constructor
    · rintro ⟨⟨h1,h2⟩,h3⟩; exact ⟨by omega,h2,h3⟩
    · rintro ⟨h1,h2,h3⟩; exact ⟨⟨by omega,h2⟩,h3⟩

theorem Vo {n : Nat} {X : List Nat} (h : X.Nodup) (hX : ∀ x ∈ X,x < n) (hl : n ≤ X.length) : ∀ c,c < n → c ∈ X := by
  intro c hc;apply Classical.byContradiction;intro hn;have := yk (L := c :: X) (M := List.range n) (List.nodup_cons.2 ⟨hn,h⟩) (fun z hz => by
    rcases List.mem_cons.1 hz with rfl | hz
    · exact List.mem_range.2 hc
    · exact List.mem_range.2 (hX z hz))
  simp at this; omega

theorem zbW {N : Nat} {X : List Nat} (hN : 1 ≤ N) (h : X.Pairwise (· < ·)) (hX : ∀ x ∈ X,x < N * N) (hl : N ≤ X.length) (hd : ∀ c ∈ X,c / N = c % N) : ∀ u,u < N → u * N + u ∈ X := by
  have hn : (X.map fun c => c / N).Nodup := by
    unfold List.Nodup;rw [List.pairwise_map];refine List.Pairwise.imp_of_mem (fun {a b} ha hb hab he => ?_) h;have := VG he (by rw [← hd a ha,← hd b hb]; exact he);omega
  intro u hu;have := Vo (n := N) hn (fun x hx => by
    obtain ⟨c,hc,rfl⟩ := List.mem_map.1 hx;exact Nat.div_lt_of_lt_mul (hX c hc)) (by simpa using hl) u hu
  obtain ⟨c,hc,rfl⟩ := List.mem_map.1 this;have e := uY N c;rw [← hd c hc] at e;rw [e]; exact hc

theorem dgl_iso {N p : Nat} {X : List Nat} (hne : X ≠ []) (hX : ∀ x ∈ X,x < N * N) (hN : 1 ≤ N) (hp : p < 2) : isoB N (dgl N p X) = true := by
  rw [Vd dgl_asc];constructor
  · cases X with
    | nil => exact absurd rfl hne
    | cons c X =>
      have ht := Wh (hX c (by simp));have : ga (pt N c) p < N := ht.2 _ (yp (by rw [vR]; exact hp));exact List.length_pos_of_mem (vh.2 ⟨_,this,⟨c,by simp,rfl⟩,rfl⟩)
  · intro a ha b hb h;obtain ⟨u,hu,_,rfl⟩ := vh.1 ha;obtain ⟨v,hv,_,rfl⟩ := vh.1 hb;rw [Xk hu,Xk hv,Xi hu,Xi hv] at h;have : u = v := by rcases h with h | h <;> exact h
    rw [this]

theorem dgl_all {N p : Nat} {X : List Nat} (hl : N ≤ (dgl N p X).length) : ∀ u,u < N → ∃ c ∈ X,ga (pt N c) p = u := by
  intro u hu;have hl : N ≤ ((List.range N).filter fun u => X.any fun c => ga (pt N c) p == u).length := by unfold dgl at hl; simpa using hl
  have := Vo (n := N) (List.Pairwise.filter _ (List.nodup_range (n := N))) (fun x hx => List.mem_range.1 (List.mem_filter.1 hx).1) hl u hu;rw [List.mem_filter,List.any_eq_true] at this;obtain ⟨_,c,hc,h⟩ := this;exact ⟨c,hc,by simpa using h⟩

theorem zde {N : Nat} {ops : List (Int × List Int)} {S : List (List Nat)} (hN : 1 ≤ N) (hS : PR N ops S) : (∀ X ∈ S,uz N X = true) ↔ ((∀ X ∈ S,yV N 3 (dsN N) X = true) ∧ ∀ X ∈ S,Wv N X = true) := by
  constructor
  · intro H;have hsm : ∀ X ∈ S,(∀ x ∈ X,x < N * N) ∧ X.Pairwise (· < ·) := fun X hX => ⟨(hS.small hX).1,(hS.small hX).2.2⟩
    refine ⟨fun X hX => ?_,fun X hX => ?_⟩
    · obtain ⟨h1,h2⟩ := hsm X hX;rw [Uf hN h1];intro p hp q hq r hr;have hlt := h1 p hp;rcases VZ.1 (H X hX) with h | h | ⟨h,hd⟩
      · rw [List.length_eq_zero_iff] at h; rw [h] at hp; cases hp
      · refine Vo (Xz h2) h1 h _ ?_;have hdd : ∀ a b c,a < N → b < N → c < N → dd a b c < N := fun a b c ha hb hc => by unfold dd; split <;> assumption
        exact lin2 (hdd _ _ _ (Nat.div_lt_of_lt_mul (h1 p hp)) (Nat.div_lt_of_lt_mul (h1 q hq)) (Nat.div_lt_of_lt_mul (h1 r hr))) (hdd _ _ _ (Nat.mod_lt _ hN) (Nat.mod_lt _ hN) (Nat.mod_lt _ hN))
      · unfold ddc;rw [← hd p hp,← hd q hq,← hd r hr];refine zbW hN h2 h1 (by omega) hd _ ?_;unfold dd;split
        · exact Nat.div_lt_of_lt_mul (h1 r hr)
        · exact Nat.div_lt_of_lt_mul (h1 p hp)
    · obtain ⟨h1,h2⟩ := hsm X hX;rw [VY];intro hi;obtain ⟨i1,i2⟩ := (Vd h2).1 hi;rcases VZ.1 (H X hX) with h | h | ⟨h,hd⟩
      · omega
      · have hf := Vo (Xz h2) h1 h;have hN1 : N = 1 := by
          apply Classical.byContradiction;intro hn;have h4 : 1 * 2 ≤ N * N := Nat.mul_le_mul (by omega) (by omega);have := i2 0 (hf 0 (by omega)) 1 (hf 1 (by omega)) (.inl (by rw [Nat.zero_div,Nat.div_eq_of_lt (by omega)]));omega
        subst hN1;have h0 : ∀ c ∈ X,c = 0 := fun c hc => by have := h1 c hc; omega
        refine ⟨by omega,?_,fun c hc => by rw [h0 c hc]⟩;rw [h0 _ (yp i1)]; rfl
      · refine ⟨by omega,?_,hd⟩;have h0 := zbW hN h2 h1 (by omega) hd 0 (by omega);rw [Nat.zero_mul] at h0;have : ga X 0 = 0 := by
          obtain ⟨k,hk,e⟩ := List.mem_iff_getElem.1 h0;rcases Nat.eq_zero_or_pos k with rfl | hk0
          · rw [YT hk]; exact e
          · have := List.pairwise_iff_getElem.1 h2 0 k i1 hk hk0;rw [e] at this; omega
        rw [this];show [0 / N,0 % N] = [0,0];rw [Nat.zero_div,Nat.zero_mod]
  · rintro ⟨H1,H2⟩ X hX;have hXs := hS.small hX;rw [VZ];by_cases hi : isoB N X = true
    · obtain ⟨a1,a2,a3⟩ := VY.1 (H2 X hX) hi;right; right;refine ⟨?_,a3⟩;have hn : (X.map fun c => c / N).Nodup := by
        unfold List.Nodup;rw [List.pairwise_map];refine List.Pairwise.imp_of_mem (fun {a b} ha hb hab he => ?_) hXs.2.2;have := VG he (by rw [← a3 a ha,← a3 b hb]; exact he);omega
      have := yk hn (M := List.range N) (fun x hx => by
        obtain ⟨c,hc,rfl⟩ := List.mem_map.1 hx;exact List.mem_range.2 (Nat.div_lt_of_lt_mul (hXs.1 c hc)))
      simp at this;omega
    · by_cases he : X = []
      · left; rw [he]; rfl
      · right; left;have hk := (Uf hN hXs.1).1 (H1 X hX);have hpos : 0 < X.length := List.length_pos_iff.2 he;have : ∃ p ∈ X,∃ q ∈ X,p ≠ q ∧ (p / N = q / N ∨ p % N = q % N) := by
          apply Classical.byContradiction;intro hn;apply hi;rw [Vd hXs.2.2];refine ⟨hpos,fun p hp q hq h => ?_⟩;apply Classical.byContradiction;intro hne;exact hn ⟨p,hp,q,hq,hne,h⟩
        obtain ⟨p,hp,q,hq,hne,hpq⟩ := this;have hrect := zcQ hN hk hp hq hne hpq;have hR := (hS.all X).2 hX;have hA : ∀ j,j < 2 → ∀ u,u < N → ∃ c ∈ X,ga (pt N c) j = u := fun j hj => by
          refine dgl_all ?_;have hm := (hS.all _).1 (dgl_reach hj hR);exact (VY.1 (H2 _ hm) (dgl_iso he hXs.1 hN hj)).1
        have hall : ∀ c,c < N * N → c ∈ X := fun c hc => by
          obtain ⟨r,hr,e1⟩ := hA 0 (by omega) (c / N) (Nat.div_lt_of_lt_mul hc);obtain ⟨s,hs,e2⟩ := hA 1 (by omega) (c % N) (Nat.mod_lt _ hN);have := hrect r hr s hs;have e1 : r / N = c / N := e1;have e2 : s % N = c % N := e2;rw [e1,e2,uY] at this;exact this
        have := yk (L := List.range (N * N)) (M := X) List.nodup_range (fun c hc => hall c (List.mem_range.1 hc));simpa using this

set_option linter.unusedVariables false

theorem PR.ne {N : Nat} {ops : List (Int × List Int)} {S : List (List Nat)} (h : PR N ops S) : S ≠ [] := by
  intro e;have := (h.all (clo N ops [])).1 (.init (by simp));rw [e] at this; cases this

theorem pairsZ {N : Nat} {a : Int × List (Int × List Int)} (ha : AlgW a N) (h4 : N ≤ 4) :
    (∃ S,PR N a.2 S ∧ zZ a.1 a.2 = some (S.map (relT N),true) ∧ yX (a.1,a.2) = some (TTs N S,true)) ∨ (zZ a.1 a.2 = some ([],false) ∧ ∃ L,yX (a.1,a.2) = some (L,false)) := by
  have h8 := ha.n8;have hN := ha.n1;have h16 := Uc h4;have eN := ha.eN;obtain ⟨out,line,i,s1,s2,s3,s4,s5⟩ := zdg ha h4;obtain ⟨c,c1,c2⟩ := zcS ha h4;have hspec : yX (a.1,a.2) = some (TTs N out,decide (out.length ≤ 200)) := by
    unfold yX;have e0 : ZP (a.1,a.2) 2 [] = some (TT N (clo N a.2 []),true) := uo (X := []) ha h4 (List.forall_mem_nil _) (by simp);simp only [eN];rw [show ((N : Int),a.2) = (a.1,a.2) by rw [eN],e0,obs,s1,obs,zY,xh,show (200 : Int) = ((200 : Nat) : Int) from rfl,wb]
  have himpl : zZ a.1 a.2 = after c (fun r_ => some r_) (fun s724 => (Zh s724.1).bind fun r908 =>
  (forR (S := (List (Int × (List (List Int))))) (R := (List (Int × (List (List Int)))) × Bool) (fun _ x976 s973 =>
  (forR (S := (List (List Int))) (R := (List (Int × (List (List Int)))) × Bool) (fun _ x1019 s1016 =>
  (nz (N : Int)).bind fun u1028 =>
  (nz (N : Int)).bind fun u1029 =>
  (app s1016 ([[w64 (Int.tdiv x1019 (N : Int)),Int.tmod x1019 (N : Int)]])).bind fun y1035 =>
  some (.nx y1035)) 0 x976 ([])).bind fun o1020 => after o1020 (fun r_ => some (.rt r_)) (fun s1016 =>
  (app s973 ([(2,s1016)])).bind fun y1041 =>
  some (.nx y1041))) 0 r908 ([])).bind fun o977 => after o977 (fun r_ => some r_) (fun s973 =>
  (nne s973).bind fun u1043 => some (s973,true))) := by
    unfold zZ;rw [eN];have eNN : w64 ((N : Int) * (N : Int)) = ((N * N : Nat) : Int) := yS (by omega);obtain ⟨H,hc1,hc2⟩ := WI (H0 := List.replicate (N * N) false) ha (by simp);have e0 : clo N a.2 (mk (List.replicate (N * N) false)) = clo N a.2 [] := zaJ (fun x => by
      have : bt (List.replicate (N * N) false) x = false := by
        unfold bt; rw [List.getD_eq_getElem?_getD,List.getElem?_replicate]; split <;> rfl
      rw [vU,this]; simp)
    rw [e0] at hc2;have hl0 := zdq (N := N) (ops := a.2) (X := []);rw [show mks (w64 ((N : Int) * (N : Int))) false = some (List.replicate (N * N) false) from we eNN (by omega),obs,hc1,obs,hc2,obs];show ((ym (NL (clo N a.2 []))).bind _) = _;rw [UJ (by omega),obs,c1]; rfl
  rcases c2 with ⟨M,j,seen,rfl,m1,m2,m3⟩ | ⟨rfl,M,m1,m2,m3⟩
  · have hMs : ∀ X ∈ M,X.length ≤ 4294967296 := fun X hX => by have := (Yb ((m2 X).2 hX)).2.1; omega
    obtain ⟨S,t1,t2,t3⟩ := sortT_eq (L := M) hMs (by omega) m1;have hSl : S.length = M.length := t2.length_eq;have hSmem : ∀ x,Reach [clo N a.2 []] (nxP N a.2) x ↔ x ∈ S := fun x => (m2 x).trans t2.mem_iff.symm
    have hPR : PR N a.2 S := ⟨t3,by omega,hSmem⟩;left;have hol : out.length ≤ S.length := yk s2 fun x hx => (hSmem x).1 (s3 x hx)
    have hf : out.length ≤ 200 := by omega
    have he : S = out := by
      refine XE (le := fun a b => ltT a b = true) (fun x y h h' => ?_) (vb (xB vi t3) s2 fun x => ?_) t3 s4
      · have := UN h h'; rw [vi] at this; cases this
      · rw [← hSmem x,s5 hf]
    refine ⟨S,hPR,?_,by rw [hspec,← he,show decide (S.length ≤ 200) = true by simp; omega]⟩;rw [himpl,zY,t1,obs];have key : ∀ (L pre : List (List Nat)) (i : Int),(pre ++ L).length ≤ 200 → (∀ X ∈ L,(∀ x ∈ X,x < N * N) ∧ X.length ≤ N * N) → forR (S := (List (Int × (List (List Int))))) (R := (List (Int × (List (List Int)))) × Bool) (fun _ x976 s973 =>
  (forR (S := (List (List Int))) (R := (List (Int × (List (List Int)))) × Bool) (fun _ x1019 s1016 =>
  (nz (N : Int)).bind fun u1028 =>
  (nz (N : Int)).bind fun u1029 =>
  (app s1016 ([[w64 (Int.tdiv x1019 (N : Int)),Int.tmod x1019 (N : Int)]])).bind fun y1035 =>
  some (.nx y1035)) 0 x976 ([])).bind fun o1020 => after o1020 (fun r_ => some (.rt r_)) (fun s1016 =>
  (app s973 ([(2,s1016)])).bind fun y1041 =>
  some (.nx y1041))) i (NLL L) (pre.map (relT N)) = some (.br ((pre ++ L).map (relT N))) := by
      intro L
      induction L with
      | nil => intro pre i _ _; rw [lan]; rfl
      | cons X L ih =>
        intro pre i hl hL;have hX := hL X (by simp);rw [show NLL (X :: L) = NL X :: NLL L from rfl,XY (s' := (pre ++ [X]).map (relT N)) (by
          rw [zcN hN h8 hX.1 (by omega),obs,zY,yC (by simp at hl ⊢; omega)];simp [relT]),ih (pre ++ [X]) (i + 1) (by simp at hl ⊢; omega) (fun Y hY => hL Y (by simp [hY]))]
        simp
    have := key S [] 0 (by simp; omega) (fun X hX => ⟨(hPR.small hX).1,(hPR.small hX).2.1⟩);rw [show ([] : List (List Nat)).map (relT N) = [] from rfl] at this;rw [this,obs,zY,List.nil_append];have hne : S ≠ [] := hPR.ne;have e : nne (S.map (relT N)) = some () := by
      unfold nne;rw [if_neg];cases S with
      | nil => exact absurd rfl hne
      | cons x S => simp
    rw [e]; rfl
  · right;refine ⟨by rw [himpl]; rfl,TTs N out,?_⟩;rw [hspec];have : ¬ out.length ≤ 200 := fun hf => by
      have := yk m1 (M := out) fun x hx => (s5 hf x).1 (m2 x hx)
      omega
    rw [show decide (out.length ≤ 200) = false by simpa using this]

theorem zdi : Ym (ByteArray.mk #[109,97,106,111,114,105,116,121]) = some (majC,true) := by decide +kernel

theorem maj_cases {N : Nat} {a : Int × List (Int × List Int)} {S : List (List Nat)} (hN : AlgW a N) (h4 : N ≤ 4) (hz : zZ a.1 a.2 = some (S.map (relT N),true)) :
    (Zf a = some (S.map (relT N),true) ∧ ∀ all,ZS a all = (Yy a.1 false).bind fun r52 => (yg a.1 all (r52.1,r52.2)).bind fun r55 => some ((decide (r55 < 0)),true)) ∨
    (∃ b,Zf a = some ([],b) ∧ ∀ all,ZS a all = some (false,b)) := by
  obtain ⟨z,p,e1,e2,e3⟩ := zcI hN.n1 h4 hN.eN hN.ops (by have := hN.l8; omega);have e1' : yG (a.1,a.2) (majC.1,majC.2) = some z := e1;have e2' : yn (a.1,a.2) (majC.1,majC.2) = some (some p) := e2;have hm : Zf a = (bif (p.2.2.2.2.2.2 == 3) then some ([],false) else (bif (p.2.2.2.2.2.2 == 2) then some ([],true) else some (S.map (relT N),true))) := by
    unfold Zf;rw [hz,obs,bnt,ct0,zdi,obs,e2',obs];rfl
  have hq : ∀ all,ZS a all = (bif (decide (z.2.2.1 < 0)) then some (false,(!z.2.2.2.2)) else (Yy a.1 false).bind fun r52 => (yg a.1 all (r52.1,r52.2)).bind fun r55 => some ((decide (r55 < 0)),true)) := fun all => by
    unfold ZS;rw [zcY,obs,e1',obs]
  rcases e3 with ⟨g1,g2⟩ | ⟨g1,g2,g3⟩ | ⟨g1,g2,g3⟩
  · left;refine ⟨by rw [hm,g2]; rfl,fun all => ?_⟩;rw [hq,decide_eq_false (by omega),ct0]
  · right;refine ⟨false,by rw [hm,g3]; rfl,fun all => ?_⟩;rw [hq,decide_eq_true g1,g2]; rfl
  · right;refine ⟨true,by rw [hm,g3]; rfl,fun all => ?_⟩;rw [hq,decide_eq_true g1,g2]; rfl

theorem zcT {N : Nat} {a : Int × List (Int × List Int)} {S : List (List Nat)} (hN : AlgW a N) (h4 : N ≤ 4) (hS : PR N a.2 S) :
    ((Yy a.1 false).bind fun r52 => (yg a.1 (TTs N S) (r52.1,r52.2)).bind fun r55 => some ((decide (r55 < 0)),true)) = some (S.all (yV N 3 (dsN N)),true) := by
  have hb : N * N * N ≤ 64 := Nat.mul_le_mul (Nat.mul_le_mul h4 h4) h4;have hbb : N * N ≤ 16 := Nat.mul_le_mul h4 h4;have hl := hS.l200;have hw : w64 (w64 (a.1 * a.1) * a.1) = ((N * N * N : Nat) : Int) := by rw [hN.eN,yS (by omega),yS (by omega)]
  rw [l18Op_eq false hN.n1 hN.eN hw (by omega),obs,hN.eN,zbI hN.n1 hN.n8 (ds_op hN.n1) (hS.rows h4) (by omega),obs];congr 2;have e : S.all (yV N 3 (dsN N)) = (List.range S.length).all fun j => yV N 3 (dsN N) (gl S j) := by
    conv => lhs; rw [← zdj S,List.all_map]
    rfl
  rw [e];cases hf : (List.range S.length).find? (fun j => !yV N 3 (dsN N) (gl S j)) with
  | none =>
    rw [List.find?_eq_none] at hf;symm;simp only [show decide ((-1 : Int) < 0) = true from rfl];rw [List.all_eq_true];intro j hj; simpa using hf j hj
  | some j =>
    have hj := List.find?_some hf;have hm := List.mem_of_find?_eq_some hf;symm;simp only [show decide (((j : Nat) : Int) < 0) = false by simp];rw [← Bool.not_eq_true,List.all_eq_true];intro h;rw [h j hm] at hj; cases hj

theorem zcz (a : Int × List (Int × List Int)) (hb : BA a) :
    (∃ N,AlgN a N ∧ N ≤ 4 ∧ ((ZT (a.1,a.2)).bind fun r7 => (bif (!r7) then some true else some (decide (4 < a.1)))) = some false ∧
      ((∃ S,PR N a.2 S ∧ zZ a.1 a.2 = some (S.map (relT N),true) ∧ ZR a = some (TTs N S,true)) ∨ (zZ a.1 a.2 = some ([],false) ∧ ∃ L,ZR a = some (L,false)))) ∨
    (((ZT (a.1,a.2)).bind fun r7 => (bif (!r7) then some true else some (decide (4 < a.1)))) = some true ∧ ∃ L,ZR a = some (L,false)) := by
  unfold ZR;rcases alg_cases a hb with ⟨N,hN,h1,h2⟩ | ⟨_,h1,h2⟩
  · simp only [h1,h2,obs,bnt,ct0];have eN := hN.eN;by_cases h4 : N ≤ 4
    · rw [show decide ((4 : Int) < a.1) = false by simp; omega];simp only [ct0];refine .inl ⟨N,hN,h4,by trivial,?_⟩;rcases pairsZ hN.toAlgW h4 with ⟨S,p1,p2,p3⟩ | ⟨p1,L,p2⟩
      · exact .inl ⟨S,p1,p2,by rw [p3]; rfl⟩
      · exact .inr ⟨p1,L,by rw [p2]; rfl⟩
    · rw [show decide ((4 : Int) < a.1) = true by simp; omega];exact .inr ⟨by trivial,[],rfl⟩
  · simp only [h1,h2,obs,bnf,ct1];exact .inr ⟨by trivial,[],rfl⟩

set_option linter.unusedVariables false

theorem isE_map {N : Nat} {S : List (List Nat)} (h : S ≠ []) : List.isEmpty (S.map (relT N)) = false := by
  cases S with
  | nil => exact absurd rfl h
  | cons x S => rfl

theorem UY {N : Nat} {X : List Nat} (hX : ∀ x ∈ X,x < N * N) (k : Int) : yJ (k,TT N X) = some (Wd N X) := by
  unfold yJ Wd;have e : TT N X = X.map fun c => NL (pt N c) := by simp [TT,NLL,Function.comp_def]
  show ((forR _ 0 (TT N X) ()).bind _) = _;rw [e,UM,Vg (fun c => c / N == c % N) false () 0 X (fun i c hc => by
    simp only [pt0,pt1,obs];rw [show (((c / N : Nat) : Int) != ((c % N : Nat) : Int)) = !(c / N == c % N) by rw [bne]; congr 1; rw [Bool.eq_iff_iff]; simp; omega];cases c / N == c % N <;> rfl)]
  cases X.all fun c => c / N == c % N <;> rfl

theorem UX {N : Nat} {S : List (List Nat)} (h4 : N ≤ 4) (hS : ∀ X ∈ S,(∀ x ∈ X,x < N * N) ∧ X.Pairwise (· < ·) ∧ X.length ≤ 64) : yB (N : Int) (S.map (relT N)) = some (S.all (uz N)) := by
  have h16 : N * N ≤ 16 := Nat.mul_le_mul h4 h4;unfold yB;rw [UM,Vg (uz N) false () 0 S (fun i X hX => by
    obtain ⟨h1,h2,h3⟩ := hS X hX;have e1 : (relT N X).2 = TT N X := rfl;have e2 : yJ ((relT N X).1,TT N X) = some (Wd N X) := UY h1 _;simp only [e1,wq,yS (show N * N ≤ 9223372036854775807 by omega),e2,obs];rw [show decide ((0 : Int) < (X.length : Int)) = decide (0 < X.length) by rw [decide_eq_decide]; omega,Yi,wD];unfold uz;cases decide (0 < X.length) <;> cases decide (X.length < N * N) <;> cases (X.length == N) <;> cases Wd N X <;> rfl)]
  cases S.all (uz N) <;> rfl

theorem Us {N : Nat} {X : List Nat} (hl : X.length ≤ 1000) : Ye (TT N X) = some (Wd N X) := by
  unfold Ye;rw [Yq (fun j => ga X j / N == ga X j % N) false (s := ()) (n := X.length) (by rw [wq]) (by omega) (fun j hj => by
    simp only [uu hj,obs,pt0,pt1];rw [show (((ga X j / N : Nat) : Int) != ((ga X j % N : Nat) : Int)) = !(ga X j / N == ga X j % N) by rw [bne]; congr 1; rw [Bool.eq_iff_iff]; simp; omega];cases ga X j / N == ga X j % N <;> rfl)]
  have : (List.range X.length).all (fun j => ga X j / N == ga X j % N) = Wd N X := by
    unfold Wd
    conv => rhs; rw [← Uu X,List.all_map]
    rfl
  rw [this];cases Wd N X <;> rfl

theorem zbr {N : Nat} {a : Int × List (Int × List Int)} {S : List (List Nat)} (hN : AlgW a N) (h4 : N ≤ 4) (hS : PR N a.2 S) : yE a (TTs N S) = some (S.all (Wv N)) := by
  have h16 : N * N ≤ 16 := Nat.mul_le_mul h4 h4;have hl := hS.l200;have hr := hS.rows h4;unfold yE;rw [Yq (fun j => Wv N (gl S j)) false (s := ()) (n := S.length) (by rw [xh]) (by omega) (fun j hj => by
    obtain ⟨h1,h2,h3⟩ := hr _ (xm hj);have ej : S[j] = gl S j := (Yf hj).symm;simp only [ua hj,obs,ej,l18Iso_eq (show (gl S j).length ≤ 1000 by omega),wq,hN.eN,Us (show (gl S j).length ≤ 1000 by omega),Yi];unfold Wv;cases hi : isoB N (gl S j) with
    | false => rfl
    | true =>
      have hpos : 0 < (gl S j).length := ((Vd h2).1 hi).1;rw [ct1];cases hd : decide ((gl S j).length < N) with
      | true => rfl
      | false =>
        have e0 : idx (TT N (gl S j)) 0 = some (NL (pt N (ga (gl S j) 0))) := by rw [show (0 : Int) = ((0 : Nat) : Int) from rfl,uu hpos]
        have e1 : ZN (NL (pt N (ga (gl S j) 0))) [0,0] = some (pt N (ga (gl S j) 0) == [0,0]) := wY (b := [0,0]) (by rw [vR]; omega);rw [ct0,e0,obs,e1,obs];cases (pt N (ga (gl S j) 0) == [0,0]) <;> cases Wd N (gl S j) <;> rfl)]
  have : (List.range S.length).all (fun j => Wv N (gl S j)) = S.all (Wv N) := by
    conv => rhs; rw [← zdj S,List.all_map]
    rfl
  rw [this];cases S.all (Wv N) <;> rfl

theorem zdp {N : Nat} {ops : List (Int × List Int)} {S : List (List Nat)} (hN : 1 ≤ N) (hS : PR N ops S) : S.all (uz N) = (S.all (yV N 3 (dsN N)) && S.all (Wv N)) := by
  rw [Bool.eq_iff_iff,Bool.and_eq_true,List.all_eq_true,List.all_eq_true,List.all_eq_true];exact zde hN hS

theorem zcq {N : Nat} {a : Int × List (Int × List Int)} {S : List (List Nat)} (hN : AlgW a N) (h4 : N ≤ 4) (hS : PR N a.2 S) (p1 : zZ a.1 a.2 = some (S.map (relT N),true)) :
    ∃ z,((ZS (a.1,a.2) (TTs N S)).bind fun r8 => (bif r8.1 then (yE (a.1,a.2) (TTs N S)).bind fun r11 => some (r11,r8.2) else some (false,r8.2))) = some z ∧
      ((Zf (a.1,a.2)).bind fun r11 => (bif (!(List.isEmpty r11.1)) then (yB a.1 r11.1).bind fun r15 => some (r15,r11.2) else some (false,r11.2))) = some z := by
  rcases maj_cases hN h4 p1 with ⟨m1,m2⟩ | ⟨b,m1,m2⟩
  · have m1 : Zf (a.1,a.2) = some (S.map (relT N),true) := m1;have m2 : ZS (a.1,a.2) (TTs N S) = _ := m2 (TTs N S);have e1 : yE (a.1,a.2) (TTs N S) = some (S.all (Wv N)) := zbr hN h4 hS;rw [m1,m2,zcT hN h4 hS,e1];simp only [obs];rw [isE_map hS.ne,bnf,ct1,hN.eN,UX h4 (hS.rows h4),obs,zdp hN.n1 hS];refine ⟨(S.all (yV N 3 (dsN N)) && S.all (Wv N),true),?_,rfl⟩;cases S.all (yV N 3 (dsN N)) <;> rfl
  · have m1 : Zf (a.1,a.2) = some ([],b) := m1;have m2 : ZS (a.1,a.2) (TTs N S) = _ := m2 (TTs N S);rw [m1,m2];exact ⟨_,rfl,rfl⟩

set_option linter.unusedVariables false

theorem BA.f {a : Int × List (Int × List Int)} (hb : BA a) {f : Int × List Int} (hf : f ∈ a.2) : f.2.length ≤ 4294967296 := by
  have : f.2.length ≤ 1048576 := hb.2 f hf;omega

theorem l2Own_eq (a : Int × List (Int × List Int)) (hb : BA a) : xD a = some a := by
  unfold xD;have hl := hb.1;rw [Xd (F := fun j => a.2.take j) (n := a.2.length) (s := []) rfl (by omega) rfl (fun j hj => by
    have hf : xL ((a.2[j]).1,(a.2[j]).2) = some a.2[j] := by
      unfold xL; rw [Vs (hb.f (List.getElem_mem hj))]; rfl
    rw [yv,gge hj,obs,hf,obs,yC (by simp; omega),obs,List.take_succ_eq_append_getElem hj])]
  rw [List.take_length]; rfl

theorem uP (a : Int × List (Int × List Int)) (hb : BA a) : yq a = some a := by
  unfold yq;have hl := hb.1;have key : ∀ (l pre : List (Int × List Int)) (i : Int),(∀ f ∈ l,f.2.length ≤ 4294967296) → (pre ++ l).length ≤ 4294967296 → forR (S := (List (Int × (List Int)))) (R := (Int × (List (Int × (List Int))))) (fun _ x43 s40 =>
  (YH (x43.1,x43.2)).bind fun r57 =>
  (app s40 ([(r57.1,r57.2)])).bind fun y62 =>
  some (.nx y62)) i l pre = some (.br (pre ++ l)) := by
    intro l
    induction l with
    | nil => intro pre i _ _; rw [lan]; rfl
    | cons f l ih =>
      intro pre i hf hlen;have e : YH (f.1,f.2) = some f := by unfold YH; rw [zbT (hf f (by simp))]; rfl
      rw [XY (s' := pre ++ [f]) (by rw [e,obs,yC (by simp at hlen ⊢; omega)]; rfl),ih (pre ++ [f]) (i + 1) (fun g hg => hf g (by simp [hg])) (by simp at hlen ⊢; omega)];simp
  have := key a.2 [] 0 (fun f hf => hb.f hf) (by simp; omega);rw [List.nil_append] at this;show ((forR _ 0 a.2 []).bind _) = _;rw [this]; rfl

def cst (N : Nat) : List (Int × List Int) := (List.range N).map fun k : Nat => ((0 : Int),[(k : Int)])

theorem cst_alg {N : Nat} {a : Int × List (Int × List Int)} (ha : AlgN a N) (h4 : N ≤ 4) : AlgW (a.1,a.2 ++ cst N) N := by
  refine ⟨ha.eN,ha.n1,ha.n8,?_,fun f hf => ?_⟩
  · have := ha.l4;simp [cst]; omega
  · rcases List.mem_append.1 hf with hf | hf
    · exact ha.ops f hf
    · obtain ⟨k,hk,rfl⟩ := List.mem_map.1 hf;rw [List.mem_range] at hk;exact ⟨0,[k],rfl,by omega,rfl,fun x hx => by rw [List.mem_singleton.1 hx]; exact hk⟩

theorem uN (a : Int × List (Int × List Int)) (hb : BA a) : ∃ z,Zq a = some z ∧ Zr a = some z := by
  unfold Zq Zr;rcases zcz a hb with ⟨N,hN,h4,g1,⟨S,hS,p1,p2⟩ | ⟨p1,L,p2⟩⟩ | ⟨g1,L,p2⟩
  · have p2 : ZR (a.1,a.2) = some (TTs N S,true) := p2;have pz := p1;have o1 : xD (a.1,a.2) = some a := l2Own_eq a hb;have o2 : yq (a.1,a.2) = some a := uP a hb;have hl := hb.1;have hloop : ∀ (R : Type),forC (S := (List (Int × (List Int)))) (R := R) (fun k s => (app s ([(0,[k])])).bind fun y => some (.nx y)) 0 (N : Int) a.2 = some (.br (a.2 ++ cst N)) := fun R => by
      rw [Xd (F := fun j => a.2 ++ cst j) (n := N) rfl (by omega) (by simp [cst]) (fun j hj => by
        rw [yC (by simp [cst]; omega),obs];unfold cst;rw [List.range_succ,List.map_append,List.append_assoc]; rfl)]
    rw [g1,p2,pz,o1,o2];simp only [obs,bnt,ct0];rw [hN.eN,hloop];simp only [obs,zY];have hW := cst_alg hN h4;rw [← hN.eN];rcases pairsZ hW h4 with ⟨S',q1,q2,q3⟩ | ⟨q1,L,q2⟩
    · rw [q3];simp only [obs,bnt,ct0];obtain ⟨z,t1,t2⟩ := zcq hW h4 q1 q2;exact ⟨z,t1,t2⟩
    · rw [q2];have p3 := q1;have m1 : Zf (a.1,a.2 ++ cst N) = some ([],false) := by
        unfold Zf;rw [p3]; rfl
      rw [m1];exact ⟨_,rfl,rfl⟩
  · have p2 : ZR (a.1,a.2) = some (L,false) := p2;have pz := p1;rw [g1,p2,pz];exact ⟨_,rfl,rfl⟩
  · have p2 : ZR (a.1,a.2) = some (L,false) := p2;rw [g1,p2];exact ⟨_,rfl,rfl⟩

theorem xf (a : Int × List (Int × List Int)) (ha : OkP OkI (OkL (OkP OkI (OkL OkI))) a) : ZE a = some true := by
  unfold ZE;refine alg_head ha fun hb => ?_
  have e1 : yh (a.1,a.2) = some a := zaX a hb;have e2 : Yc (a.1,a.2) (a.1,a.2) = some true := Ug a hb;obtain ⟨⟨g,b⟩,z1,z2⟩ := uN a hb;have z1 : Zq (a.1,a.2) = some (g,b) := z1;have z2 : Zr (a.1,a.2) = some (g,b) := z2;simp only [e1,e2,obs,z1,z2,beq_self_eq_true,bnt,Bool.or_self,ct0]

end Go.Proofs
