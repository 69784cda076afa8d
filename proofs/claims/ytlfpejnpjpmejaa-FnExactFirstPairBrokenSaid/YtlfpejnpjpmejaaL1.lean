/- Plain lemmas on what the functions compute, up to: the law gives true. No conditions. -/
import Derived.Test.YtlfpejnpjpmejaaL0
set_option linter.unusedVariables false
namespace Go.Proofs
open Go.G
set_option maxRecDepth 100000

/-- One operation, at all arguments of the codes at hand. -/
theorem pairs_op {N K : Nat} {ops : List (Int × List Int)} {f : Int × List Int} {T : List Nat} {B : List (List Nat)} {H0 H : List Bool} {ch : Bool} (hN : 1 ≤ N) (h8 : N ≤ 8) (hf : f ∈ ops) (ho : OpN N f K T)
    (h0 : H0.length = N * N) (hg0 : ∀ c, bt H0 c = true → Gen N ops 2 B (pt N c)) (hI : PInv N ops B H0 ch H) :
    ∃ ch' i' H', iter (S := Bool × Int × (List Bool)) (R := (List Bool)) (fun s1314 =>
  (s_impl_power ((NL (mk H0)).length : Int) (K : Int)).bind fun r1323 =>
  (bif (decide (s1314.2.1 < r1323)) then (s_impl_argsAt s1314.2.1 (K : Int) ((NL (mk H0)).length : Int)).bind fun r1326 =>
  (forR (S := Int × Int) (R := (List Bool)) (fun _ x1339 s1336 =>
  (idx (NL (mk H0)) x1339).bind fun x1344 =>
  (nz (N : Int)).bind fun u1346 =>
  (idx (NL (mk H0)) x1339).bind fun x1347 =>
  (nz (N : Int)).bind fun u1349 =>
  some (.nx (w64 ((w64 (s1336.1 * (N : Int))) + (w64 (Int.tdiv x1344 (N : Int)))), w64 ((w64 (s1336.2 * (N : Int))) + (Int.tmod x1347 (N : Int)))))) 0 r1326 (0, 0)).bind fun o1340 => after o1340 (fun r_ => some (.rt r_)) (fun s1336 =>
  (idx (NL T) s1336.1).bind fun x1356 =>
  (idx (NL T) s1336.2).bind fun x1358 =>
  (idx s1314.2.2 (w64 ((w64 (x1356 * (N : Int))) + x1358))).bind fun x1360 =>
  (bif (!x1360) then (idx s1314.2.2 (w64 ((w64 (x1356 * (N : Int))) + x1358))).bind fun x1363 =>
  some (.nx (true, w64 (s1314.2.1 + 1), List.set s1314.2.2 (Int.toNat (w64 ((w64 (x1356 * (N : Int))) + x1358))) true)) else some (.nx (s1314.1, w64 (s1314.2.1 + 1), s1314.2.2)))) else some (.br (s1314.1, s1314.2.1, s1314.2.2)))) FU (ch, 0, H) = some (.br (ch', i', H')) ∧ PInv N ops B H0 ch' H' ∧ (∀ c, bt H c = true → bt H' c = true) ∧ ∀ i, i < (mk H0).length ^ K → bt H' (cdA N T (mk H0) (dig (mk H0).length K i)) = true := by
  have h64 := pairs_small h8
  have hL : (mk H0).length ≤ 64 := by have := mk_len (H := H0); omega
  have hK := ho.k3
  have hP : (mk H0).length ^ K ≤ 64 ^ 3 := Nat.le_trans (Nat.pow_le_pow_left hL K) (Nat.pow_le_pow_right (by omega) hK)
  have hR : ∀ x ∈ mk H0, x < N * N := fun x hx => by rw [← h0]; exact (mk_mem.1 hx).1
  obtain ⟨c, hc, ⟨ch', i', H', rfl, h1, h2, h3⟩, _⟩ := iter_inv (S := Bool × Int × (List Bool)) (R := (List Bool)) (step := fun s1314 =>
  (s_impl_power ((NL (mk H0)).length : Int) (K : Int)).bind fun r1323 =>
  (bif (decide (s1314.2.1 < r1323)) then (s_impl_argsAt s1314.2.1 (K : Int) ((NL (mk H0)).length : Int)).bind fun r1326 =>
  (forR (S := Int × Int) (R := (List Bool)) (fun _ x1339 s1336 =>
  (idx (NL (mk H0)) x1339).bind fun x1344 =>
  (nz (N : Int)).bind fun u1346 =>
  (idx (NL (mk H0)) x1339).bind fun x1347 =>
  (nz (N : Int)).bind fun u1349 =>
  some (.nx (w64 ((w64 (s1336.1 * (N : Int))) + (w64 (Int.tdiv x1344 (N : Int)))), w64 ((w64 (s1336.2 * (N : Int))) + (Int.tmod x1347 (N : Int)))))) 0 r1326 (0, 0)).bind fun o1340 => after o1340 (fun r_ => some (.rt r_)) (fun s1336 =>
  (idx (NL T) s1336.1).bind fun x1356 =>
  (idx (NL T) s1336.2).bind fun x1358 =>
  (idx s1314.2.2 (w64 ((w64 (x1356 * (N : Int))) + x1358))).bind fun x1360 =>
  (bif (!x1360) then (idx s1314.2.2 (w64 ((w64 (x1356 * (N : Int))) + x1358))).bind fun x1363 =>
  some (.nx (true, w64 (s1314.2.1 + 1), List.set s1314.2.2 (Int.toNat (w64 ((w64 (x1356 * (N : Int))) + x1358))) true)) else some (.nx (s1314.1, w64 (s1314.2.1 + 1), s1314.2.2)))) else some (.br (s1314.1, s1314.2.1, s1314.2.2))))
    (fun s => ∃ ch', ∃ i : Nat, ∃ H', s = (ch', (i : Int), H') ∧ i ≤ (mk H0).length ^ K ∧ PInv N ops B H0 ch' H' ∧ (∀ c, bt H c = true → bt H' c = true) ∧ ∀ i', i' < i → bt H' (cdA N T (mk H0) (dig (mk H0).length K i')) = true)
    (fun s => 1000000 - s.2.1.toNat)
    (fun c => ∃ ch' i' H', c = .br (ch', i', H') ∧ PInv N ops B H0 ch' H' ∧ (∀ c, bt H c = true → bt H' c = true) ∧ ∀ i, i < (mk H0).length ^ K → bt H' (cdA N T (mk H0) (dig (mk H0).length K i)) = true)
    FU (ch, 0, H) ⟨ch, 0, H, rfl, Nat.zero_le _, hI, fun _ h => h, fun i' h => by omega⟩ (by simp [FU]) (by
      rintro s ⟨ch', i, H', rfl, hi, hI', hup, hp⟩
      simp only [NL_len]
      rw [powerA hK (by omega), Option.bind_some]
      simp only [dec_lt]
      by_cases hil : i < (mk H0).length ^ K
      · left
        have hdl : ∀ x ∈ dig (mk H0).length K i, x < (mk H0).length := fun x hx => by
          rcases Nat.eq_zero_or_pos (mk H0).length with e | e
          · rcases Nat.eq_zero_or_pos K with e2 | e2
            · subst e2; simp [dig] at hx
            · rw [e, Nat.zero_pow e2] at hil; omega
          · exact dig_lt e K i x hx
        have htup := cdA_ok ho (dig_len _ _ _) hR hdl
        rw [show decide (i < (mk H0).length ^ K) = true by simpa using hil, cond_true, argsA hK hil (by omega), Option.bind_some, code_loop hN h8 (dig_len _ _ _) hK hR hdl, Option.bind_some, after_br']
        rw [apT_two, List.map_map, List.map_map] at htup
        have q1 : ga T (ix N 0 ((dig (mk H0).length K i).map fun x => ga (mk H0) x / N)) < N := htup.2 _ (by simp [pt, Function.comp_def, ga])
        have q2 : ga T (ix N 0 ((dig (mk H0).length K i).map fun x => ga (mk H0) x % N)) < N := htup.2 _ (by simp [pt, Function.comp_def, ga])
        have hb1 : ix N 0 ((dig (mk H0).length K i).map fun x => ga (mk H0) x / N) < T.length := by
          rw [ho.len]
          exact ix0_lt (fun y hy => by
            obtain ⟨x, h, rfl⟩ := List.mem_map.1 hy
            exact Nat.div_lt_of_lt_mul (hR _ (ga_mem (hdl x h)))) (by simp)
        have hb2 : ix N 0 ((dig (mk H0).length K i).map fun x => ga (mk H0) x % N) < T.length := by
          rw [ho.len]
          exact ix0_lt (fun y hy => by
            obtain ⟨x, h, rfl⟩ := List.mem_map.1 hy
            exact Nat.mod_lt _ hN) (by simp)
        have hcode : cdA N T (mk H0) (dig (mk H0).length K i) < N * N := cd_lt (cdA_ok ho (dig_len _ _ _) hR hdl)
        have hlen := hI'.len
        have ecd := cdA_eq N T (mk H0) (dig (mk H0).length K i)
        simp only [idx_NL hb1, idx_NL hb2, Option.bind_some]
        have b3 : ga T (ix N 0 ((dig (mk H0).length K i).map fun x => ga (mk H0) x / N)) * N ≤ 8 * 8 := Nat.mul_le_mul (by omega) h8
        rw [w64_mul (by omega), w64_add (by omega), ← ecd, idx_bt (by omega), Option.bind_some, w64_add1 (by omega), Option.bind_some]
        cases hb : bt H' (cdA N T (mk H0) (dig (mk H0).length K i)) with
        | true =>
          rw [Bool.not_true, cond_false]
          refine ⟨_, rfl, ⟨ch', i + 1, H', rfl, by omega, hI', hup, fun i' hi' => ?_⟩, by simp; omega⟩
          by_cases e : i' = i
          · rw [e]; exact hb
          · exact hp i' (by omega)
        | false =>
          rw [Bool.not_false, cond_true]
          have hg : Gen N ops 2 B (pt N (cdA N T (mk H0) (dig (mk H0).length K i))) := by
            unfold cdA
            rw [pt_cd (cdA_ok ho (dig_len _ _ _) hR hdl)]
            exact .app hf ho (by simp) (fun t ht => by
              obtain ⟨x, h, rfl⟩ := List.mem_map.1 ht
              exact hg0 _ (mk_mem.1 (ga_mem (hdl x h))).2)
          refine ⟨_, rfl, ⟨true, i + 1, H'.set (cdA N T (mk H0) (dig (mk H0).length K i)) true, rfl, by omega, hI'.set hcode hb hg, fun c h => ?_, fun i' hi' => ?_⟩, by simp; omega⟩
          · rw [bt_set (by omega), hup c h]; simp
          · rw [bt_set (by omega)]
            by_cases e : i' = i
            · rw [e]; simp
            · rw [hp i' (by omega)]; simp
      · right
        rw [show decide (i < (mk H0).length ^ K) = false by simpa using hil, cond_false]
        exact ⟨_, rfl, by intro s; simp, ch', _, H', rfl, hI', hup, fun i' h => hp i' (by omega)⟩)
  exact ⟨ch', i', H', hc, h1, h2, h3⟩

set_option linter.unusedVariables false

theorem round_ops {N : Nat} {a : Int × List (Int × List Int)} {B : List (List Nat)} {H0 : List Bool} (ha : AlgN a N) (h0 : H0.length = N * N) (hg0 : ∀ c, bt H0 c = true → Gen N a.2 2 B (pt N c)) :
    ∃ ch H, forR (S := Bool × (List Bool)) (R := (List Bool)) (fun _ x1215 s1212 =>
  (iter (S := Bool × Int × (List Bool)) (R := (List Bool)) (fun s1314 =>
  (s_impl_power ((NL (mk H0)).length : Int) x1215.1).bind fun r1323 =>
  (bif (decide (s1314.2.1 < r1323)) then (s_impl_argsAt s1314.2.1 x1215.1 ((NL (mk H0)).length : Int)).bind fun r1326 =>
  (forR (S := Int × Int) (R := (List Bool)) (fun _ x1339 s1336 =>
  (idx (NL (mk H0)) x1339).bind fun x1344 =>
  (nz (N : Int)).bind fun u1346 =>
  (idx (NL (mk H0)) x1339).bind fun x1347 =>
  (nz (N : Int)).bind fun u1349 =>
  some (.nx (w64 ((w64 (s1336.1 * (N : Int))) + (w64 (Int.tdiv x1344 (N : Int)))), w64 ((w64 (s1336.2 * (N : Int))) + (Int.tmod x1347 (N : Int)))))) 0 r1326 (0, 0)).bind fun o1340 => after o1340 (fun r_ => some (.rt r_)) (fun s1336 =>
  (idx x1215.2 s1336.1).bind fun x1356 =>
  (idx x1215.2 s1336.2).bind fun x1358 =>
  (idx s1314.2.2 (w64 ((w64 (x1356 * (N : Int))) + x1358))).bind fun x1360 =>
  (bif (!x1360) then (idx s1314.2.2 (w64 ((w64 (x1356 * (N : Int))) + x1358))).bind fun x1363 =>
  some (.nx (true, w64 (s1314.2.1 + 1), List.set s1314.2.2 (Int.toNat (w64 ((w64 (x1356 * (N : Int))) + x1358))) true)) else some (.nx (s1314.1, w64 (s1314.2.1 + 1), s1314.2.2)))) else some (.br (s1314.1, s1314.2.1, s1314.2.2)))) FU (s1212.1, 0, s1212.2)).bind fun o1318 => after o1318 (fun r_ => some (.rt r_)) (fun s1314 =>
  some (.nx (s1314.1, s1314.2.2)))) 0 a.2 (false, H0) = some (.br (ch, H)) ∧ PInv N a.2 B H0 ch H ∧ ∀ f ∈ a.2, ∀ K T, OpN N f K T → ∀ i, i < (mk H0).length ^ K → bt H (cdA N T (mk H0) (dig (mk H0).length K i)) = true := by
  have := forR_hoare (S := Bool × (List Bool)) (R := (List Bool)) (step := fun _ x1215 s1212 =>
  (iter (S := Bool × Int × (List Bool)) (R := (List Bool)) (fun s1314 =>
  (s_impl_power ((NL (mk H0)).length : Int) x1215.1).bind fun r1323 =>
  (bif (decide (s1314.2.1 < r1323)) then (s_impl_argsAt s1314.2.1 x1215.1 ((NL (mk H0)).length : Int)).bind fun r1326 =>
  (forR (S := Int × Int) (R := (List Bool)) (fun _ x1339 s1336 =>
  (idx (NL (mk H0)) x1339).bind fun x1344 =>
  (nz (N : Int)).bind fun u1346 =>
  (idx (NL (mk H0)) x1339).bind fun x1347 =>
  (nz (N : Int)).bind fun u1349 =>
  some (.nx (w64 ((w64 (s1336.1 * (N : Int))) + (w64 (Int.tdiv x1344 (N : Int)))), w64 ((w64 (s1336.2 * (N : Int))) + (Int.tmod x1347 (N : Int)))))) 0 r1326 (0, 0)).bind fun o1340 => after o1340 (fun r_ => some (.rt r_)) (fun s1336 =>
  (idx x1215.2 s1336.1).bind fun x1356 =>
  (idx x1215.2 s1336.2).bind fun x1358 =>
  (idx s1314.2.2 (w64 ((w64 (x1356 * (N : Int))) + x1358))).bind fun x1360 =>
  (bif (!x1360) then (idx s1314.2.2 (w64 ((w64 (x1356 * (N : Int))) + x1358))).bind fun x1363 =>
  some (.nx (true, w64 (s1314.2.1 + 1), List.set s1314.2.2 (Int.toNat (w64 ((w64 (x1356 * (N : Int))) + x1358))) true)) else some (.nx (s1314.1, w64 (s1314.2.1 + 1), s1314.2.2)))) else some (.br (s1314.1, s1314.2.1, s1314.2.2)))) FU (s1212.1, 0, s1212.2)).bind fun o1318 => after o1318 (fun r_ => some (.rt r_)) (fun s1314 =>
  some (.nx (s1314.1, s1314.2.2))))
    (fun pre s => ∃ ch H, s = (ch, H) ∧ PInv N a.2 B H0 ch H ∧ ∀ f ∈ pre, ∀ K T, OpN N f K T → ∀ i, i < (mk H0).length ^ K → bt H (cdA N T (mk H0) (dig (mk H0).length K i)) = true)
    (fun _ => False) (fun _ => False) a.2 [] 0 (false, H0) ⟨false, H0, rfl, .old h0 hg0, List.forall_mem_nil _⟩ (by
      rintro i pre f post s e ⟨ch, H, rfl, hI, hp⟩
      left
      have hf : f ∈ a.2 := by rw [e]; simp
      obtain ⟨K, T, ho⟩ := ha.ops f hf
      obtain ⟨ch', i', H', r1, r2, r3, r4⟩ := pairs_op ha.n1 ha.n8 hf ho h0 hg0 hI
      refine ⟨(ch', H'), ?_, ch', H', rfl, r2, fun g hg K' T' ho' i hi => ?_⟩
      · rw [ho.eq]
        show ((iter _ FU (ch, 0, H)).bind _) = _
        rw [r1]; rfl
      · simp only [List.nil_append, List.mem_append, List.mem_singleton] at hg
        rcases hg with hg | rfl
        · exact r3 _ (hp g (by simpa using hg) K' T' ho' i hi)
        · obtain ⟨rfl, rfl⟩ := ho.uniq ho'
          exact r4 i hi)
  rcases this with ⟨s', e, h | h⟩ | ⟨r, _, h⟩
  · obtain ⟨ch, H, rfl, h1, h2⟩ := h
    exact ⟨ch, H, e, h1, fun f hf => h2 f (by simpa using hf)⟩
  · exact h.elim
  · exact h.elim

theorem rows_of (R : List Nat) (N : Nat) : ∀ (ts : List (List Nat)), (∀ t ∈ ts, TupN N 2 t ∧ cd N t ∈ R) → ∃ ds : List Nat, ds.length = ts.length ∧ (∀ x ∈ ds, x < R.length) ∧ ds.map (fun x => pt N (ga R x)) = ts
  | [], _ => ⟨[], rfl, List.forall_mem_nil _, rfl⟩
  | t :: ts, h => by
    obtain ⟨ds, h1, h2, h3⟩ := rows_of R N ts (fun u hu => h u (by simp [hu]))
    obtain ⟨i, hi, e⟩ := List.mem_iff_getElem.1 (h t (by simp)).2
    refine ⟨i :: ds, by simp [h1], fun x hx => ?_, ?_⟩
    · rcases List.mem_cons.1 hx with rfl | hx
      · exact hi
      · exact h2 x hx
    · rw [List.map_cons, h3, ga_get hi, e, pt_cd (h t (by simp)).1]

theorem round_clsd {N : Nat} {ops : List (Int × List Int)} {H : List Bool} (h : H.length = N * N) (hp : ∀ f ∈ ops, ∀ K T, OpN N f K T → ∀ i, i < (mk H).length ^ K → bt H (cdA N T (mk H) (dig (mk H).length K i)) = true) :
    Clsd N ops 2 (fun t => TupN N 2 t ∧ bt H (cd N t) = true) := by
  intro f hf K T ho ts hl ht
  obtain ⟨ds, h1, h2, h3⟩ := rows_of (mk H) N ts (fun t h' => ⟨(ht t h').1, mk_mem.2 ⟨by rw [h]; exact cd_lt (ht t h').1, (ht t h').2⟩⟩)
  refine ⟨apT_tup ho hl (fun t h => (ht t h).1), ?_⟩
  have hdig : dig (mk H).length K (ix (mk H).length 0 ds) = ds ∧ ix (mk H).length 0 ds < (mk H).length ^ K := by
    refine ⟨?_, ix0_lt h2 (by omega)⟩
    rcases Nat.eq_zero_or_pos (mk H).length with e | e
    · have : ds = [] := by
        cases ds with
        | nil => rfl
        | cons d ds => have := h2 d (by simp); omega
      subst this
      have : K = 0 := by simpa using (show ([] : List Nat).length = K by omega).symm
      subst this; rfl
    · exact dig_ix e K ds (by omega) h2
  have := hp f hf K T ho _ hdig.2
  rw [hdig.1] at this
  unfold cdA at this
  rwa [h3] at this

/-- The codes that are marked: the closure. -/
theorem closePairs_ok {N : Nat} {a : Int × List (Int × List Int)} {H0 : List Bool} (ha : AlgN a N) (h0 : H0.length = N * N) :
    ∃ H, s_impl_closePairs__take2 (N : Int) a.2 H0 = some H ∧ H.length = N * N ∧ ∀ c, c < N * N → (bt H c = true ↔ Gen N a.2 2 ((mk H0).map (pt N)) (pt N c)) := by
  have h64 := pairs_small ha.n8
  unfold s_impl_closePairs__take2
  obtain ⟨c, hc, ⟨H, rfl, h1, h2, h3, h4⟩, _⟩ := iter_inv (S := Bool × (List Bool)) (R := (List Bool)) (step := fun s907 =>
  (bif s907.1 then (s_impl_marked s907.2).bind fun r917 =>
  (forR (S := Bool × (List Bool)) (R := (List Bool)) (fun _ x1215 s1212 =>
  (iter (S := Bool × Int × (List Bool)) (R := (List Bool)) (fun s1314 =>
  (s_impl_power (r917.length : Int) x1215.1).bind fun r1323 =>
  (bif (decide (s1314.2.1 < r1323)) then (s_impl_argsAt s1314.2.1 x1215.1 (r917.length : Int)).bind fun r1326 =>
  (forR (S := Int × Int) (R := (List Bool)) (fun _ x1339 s1336 =>
  (idx r917 x1339).bind fun x1344 =>
  (nz (N : Int)).bind fun u1346 =>
  (idx r917 x1339).bind fun x1347 =>
  (nz (N : Int)).bind fun u1349 =>
  some (.nx (w64 ((w64 (s1336.1 * (N : Int))) + (w64 (Int.tdiv x1344 (N : Int)))), w64 ((w64 (s1336.2 * (N : Int))) + (Int.tmod x1347 (N : Int)))))) 0 r1326 (0, 0)).bind fun o1340 => after o1340 (fun r_ => some (.rt r_)) (fun s1336 =>
  (idx x1215.2 s1336.1).bind fun x1356 =>
  (idx x1215.2 s1336.2).bind fun x1358 =>
  (idx s1314.2.2 (w64 ((w64 (x1356 * (N : Int))) + x1358))).bind fun x1360 =>
  (bif (!x1360) then (idx s1314.2.2 (w64 ((w64 (x1356 * (N : Int))) + x1358))).bind fun x1363 =>
  some (.nx (true, w64 (s1314.2.1 + 1), List.set s1314.2.2 (Int.toNat (w64 ((w64 (x1356 * (N : Int))) + x1358))) true)) else some (.nx (s1314.1, w64 (s1314.2.1 + 1), s1314.2.2)))) else some (.br (s1314.1, s1314.2.1, s1314.2.2)))) FU (s1212.1, 0, s1212.2)).bind fun o1318 => after o1318 (fun r_ => some (.rt r_)) (fun s1314 =>
  some (.nx (s1314.1, s1314.2.2)))) 0 a.2 (false, s907.2)).bind fun o1216 => after o1216 (fun r_ => some (.rt r_)) (fun s1212 =>
  some (.nx (s1212.1, s1212.2))) else some (.br (s907.1, s907.2))))
    (fun s => ∃ w H, s = (w, H) ∧ H.length = N * N ∧ (∀ c, bt H0 c = true → bt H c = true) ∧ (∀ c, bt H c = true → Gen N a.2 2 ((mk H0).map (pt N)) (pt N c)) ∧ (w = false → Clsd N a.2 2 (fun t => TupN N 2 t ∧ bt H (cd N t) = true)))
    (fun s => 2 * (N * N) - 2 * cnt s.2 + (if s.1 then 1 else 0))
    (fun c => ∃ H, c = .br (false, H) ∧ H.length = N * N ∧ (∀ c, bt H0 c = true → bt H c = true) ∧ (∀ c, bt H c = true → Gen N a.2 2 ((mk H0).map (pt N)) (pt N c)) ∧ Clsd N a.2 2 (fun t => TupN N 2 t ∧ bt H (cd N t) = true))
    FU (true, H0) ⟨true, H0, rfl, h0, fun _ h => h, fun c h => .base (List.mem_map.2 ⟨c, mk_mem.2 ⟨bt_lt h, h⟩, rfl⟩), fun h => by cases h⟩ (by simp [FU]; omega) (by
      rintro s ⟨w, H, rfl, hl, hup, hg, hcl⟩
      cases w with
      | false => exact .inr ⟨_, rfl, by intro s; simp, H, rfl, hl, hup, hg, hcl rfl⟩
      | true =>
        left
        obtain ⟨ch, H', r1, r2, r3⟩ := round_ops ha hl hg
        refine ⟨(ch, H'), ?_, ⟨ch, H', rfl, r2.len, fun c h => r2.up c (hup c h), r2.gen, fun hch => ?_⟩, ?_⟩
        · show ((s_impl_marked H).bind _) = _
          rw [marked_eq (by omega), Option.bind_some, r1]; rfl
        · have e := r2.stay hch
          subst e
          exact round_clsd hl r3
        · have c1 := cnt_le H
          have c2 := cnt_le H'
          have c3 := r2.len
          cases ch with
          | false => have e := r2.stay rfl; subst e; simp
          | true => have := r2.more rfl; simp; omega)
  rw [hc, Option.bind_some, after_br']
  refine ⟨H, rfl, h1, fun c hcl => ⟨fun h => h3 c h, fun h => ?_⟩⟩
  have := Gen.least (S := fun t => TupN N 2 t ∧ bt H (cd N t) = true) (fun t ht => by
    obtain ⟨d, hd, rfl⟩ := List.mem_map.1 ht
    obtain ⟨d1, d2⟩ := mk_mem.1 hd
    exact ⟨pt_tup (by rw [← h0]; exact d1), by rw [cd_pt]; exact h2 d d2⟩) h4 h
  rw [cd_pt] at this
  exact this.2

set_option linter.unusedVariables false
def ltT (X Y : List Nat) : Bool := decide (X.length < Y.length) || (decide (X.length = Y.length) && lexLt X Y)

theorem ltT_irr (X : List Nat) : ltT X X = false := by simp [ltT, lexLt_irrefl]

theorem ltT_tr {P Q R : List Nat} (h : ltT P Q = true) (h' : ltT Q R = true) : ltT P R = true := by
  simp only [ltT, Bool.or_eq_true, Bool.and_eq_true, decide_eq_true_eq] at h h' ⊢
  rcases h with h | ⟨h1, h2⟩ <;> rcases h' with h' | ⟨h3, h4⟩
  · left; omega
  · left; omega
  · left; omega
  · right; exact ⟨by omega, lexLt_trans h2 h4⟩

theorem ltT_tot {P Q : List Nat} (h : ltT P Q = false) (hne : P ≠ Q) : ltT Q P = true := by
  simp only [ltT, Bool.or_eq_false_iff, Bool.and_eq_false_iff, decide_eq_false_iff_not] at h
  simp only [ltT, Bool.or_eq_true, Bool.and_eq_true, decide_eq_true_eq]
  obtain ⟨h1, h2⟩ := h
  by_cases e : P.length = Q.length
  · right
    exact ⟨e.symm, lexLt_tri e (by simpa using h2.resolve_left (fun h => h e)) hne⟩
  · left; omega

theorem ltT_ordr : Ordr ltT := by
  refine ⟨fun {x y} h => ?_, fun {x y z} h h' => ?_⟩
  · cases hc : ltT y x with
    | false => rfl
    | true => have := ltT_irr x; rw [ltT_tr h hc] at this; cases this
  · cases hc : ltT z x with
    | false => rfl
    | true =>
      by_cases e3 : y = x
      · subst e3; rw [h'] at hc; cases hc
      · have := ltT_tr hc (ltT_tot h e3)
        rw [h'] at this; cases this

theorem compareTerms_eq {a b : List Nat} (ha : a.length ≤ 4294967296) : ∃ c, s_impl_compareTerms (NL a) (NL b) = some c ∧ (c < 0 ↔ ltT a b = true) := by
  unfold s_impl_compareTerms
  simp only [NL_len, dec_lt, ltT, Bool.or_eq_true, Bool.and_eq_true, decide_eq_true_eq]
  by_cases h1 : a.length < b.length
  · rw [show decide (a.length < b.length) = true by simpa using h1, cond_true]
    exact ⟨_, rfl, ⟨fun _ => .inl h1, fun _ => by omega⟩⟩
  · rw [show decide (a.length < b.length) = false by simpa using h1, cond_false]
    by_cases h2 : b.length < a.length
    · rw [show decide (b.length < a.length) = true by simpa using h2, cond_true]
      exact ⟨_, rfl, ⟨fun h => by omega, fun h => by omega⟩⟩
    · rw [show decide (b.length < a.length) = false by simpa using h2, cond_false, compareLists_eq ha, Option.bind_some]
      refine ⟨_, rfl, ?_⟩
      rw [cmpL_lt (by omega)]
      exact ⟨fun h => .inr ⟨by omega, h⟩, fun h => h.elim (fun h => by omega) (fun h => h.2)⟩

theorem sortT_eq {L : List (List Nat)} (hL : ∀ P ∈ L, P.length ≤ 4294967296) (hl : L.length ≤ 1000000000) (hnd : L.Nodup) :
    ∃ M : List (List Nat), s_impl_sortRows__impl_compareTerms (NLL L) = some (NLL M) ∧ M.Perm L ∧ M.Pairwise fun a b => ltT a b = true := by
  unfold s_impl_sortRows__impl_compareTerms
  obtain ⟨M, e, hp, hs⟩ := sliceStable_NLL (ls := fun x_ y_ => (s_impl_compareTerms x_ y_).bind fun r_ => some (decide (r_ < 0))) ltT_ordr (L := L) (fun x hx y hy => by
    obtain ⟨c, hc, hi⟩ := compareTerms_eq (a := x) (b := y) (hL x hx)
    rw [hc, Option.bind_some]
    congr 1
    rw [Bool.eq_iff_iff]
    simp only [decide_eq_true_eq, hi]) hl
  refine ⟨M, by rw [e]; rfl, hp, ?_⟩
  have hnd' : M.Nodup := hp.nodup_iff.2 hnd
  exact (hs.and hnd').imp (fun {a b} h => ltT_tot h.1 (fun e => h.2 e.symm))
noncomputable def clo (N : Nat) (ops : List (Int × List Int)) (X : List Nat) : List Nat := (List.range (N * N)).filter fun c => @decide (Gen N ops 2 (X.map (pt N)) (pt N c)) (Classical.propDecidable _)

theorem clo_mem {N : Nat} {ops : List (Int × List Int)} {X : List Nat} {c : Nat} : c ∈ clo N ops X ↔ c < N * N ∧ Gen N ops 2 (X.map (pt N)) (pt N c) := by simp [clo]

theorem clo_lt {N : Nat} {ops : List (Int × List Int)} {X : List Nat} : ∀ x ∈ clo N ops X, x < N * N := fun x hx => (clo_mem.1 hx).1

theorem clo_asc {N : Nat} {ops : List (Int × List Int)} {X : List Nat} : (clo N ops X).Pairwise (· < ·) := List.Pairwise.filter _ List.pairwise_lt_range

theorem clo_len {N : Nat} {ops : List (Int × List Int)} {X : List Nat} : (clo N ops X).length ≤ N * N := by
  have := List.length_filter_le (fun c => @decide (Gen N ops 2 (X.map (pt N)) (pt N c)) (Classical.propDecidable _)) (List.range (N * N)); simpa [clo] using this

theorem clo_congr {N : Nat} {ops : List (Int × List Int)} {X Y : List Nat} (h : ∀ x, x ∈ X ↔ x ∈ Y) : clo N ops X = clo N ops Y := by
  unfold clo
  congr 1
  funext c
  have : Gen N ops 2 (X.map (pt N)) (pt N c) ↔ Gen N ops 2 (Y.map (pt N)) (pt N c) :=
    ⟨fun g => g.mono (fun t ht => by obtain ⟨x, hx, rfl⟩ := List.mem_map.1 ht; exact .base (List.mem_map.2 ⟨x, (h x).1 hx, rfl⟩)),
     fun g => g.mono (fun t ht => by obtain ⟨x, hx, rfl⟩ := List.mem_map.1 ht; exact .base (List.mem_map.2 ⟨x, (h x).2 hx, rfl⟩))⟩
  simp [this]

/-- The program's closing, told by the closed set. -/
theorem closePairs_clo {N : Nat} {a : Int × List (Int × List Int)} {H0 : List Bool} (ha : AlgN a N) (h0 : H0.length = N * N) : ∃ H, s_impl_closePairs__take2 (N : Int) a.2 H0 = some H ∧ s_impl_marked H = some (NL (clo N a.2 (mk H0))) := by
  obtain ⟨H, h1, h2, h3⟩ := closePairs_ok ha h0
  have h64 := pairs_small ha.n8
  refine ⟨H, h1, ?_⟩
  rw [marked_eq (by omega)]
  congr 2
  unfold mk clo
  rw [h2]
  apply List.filter_congr
  intro c hc
  have := h3 c (by simpa using hc)
  rw [Bool.eq_iff_iff, this]; simp [mk]

theorem pt_lex {N x y : Nat} (hN : 1 ≤ N) : lexLt (pt N x) (pt N y) = decide (x < y) := by
  have h1 := Nat.div_add_mod x N
  have h2 := Nat.div_add_mod y N
  have h3 := Nat.mod_lt x hN
  have h4 := Nat.mod_lt y hN
  unfold pt
  simp only [lexLt]
  by_cases e : x / N = y / N
  · rw [if_pos e]
    rw [e] at h1
    by_cases e2 : x % N = y % N
    · rw [if_pos e2, show decide (x < y) = false by simp; omega]
    · rw [if_neg e2]
      congr 1
      exact propext ⟨fun h => by omega, fun h => by omega⟩
  · rw [if_neg e]
    congr 1
    apply propext
    have key : ∀ {a b r q : Nat}, r < N → q < N → a < b → N * a + r < N * b + q := fun {a b r q} hr hq hab => by
      have : N * (a + 1) ≤ N * b := Nat.mul_le_mul_left N hab
      rw [Nat.mul_add] at this; omega
    constructor
    · intro h; have := key h3 h4 h; omega
    · intro h
      rcases Nat.lt_or_ge (x / N) (y / N) with h' | h'
      · exact h'
      · have := key h4 h3 (show y / N < x / N by omega); omega

theorem pt_len (N x : Nat) : (pt N x).length = 2 := rfl

def TT (N : Nat) (X : List Nat) : List (List Int) := NLL (X.map (pt N))

theorem TT_len (N : Nat) (X : List Nat) : (TT N X).length = X.length := by simp [TT]

theorem TT_at {N : Nat} {X : List Nat} {k : Nat} (h : k < X.length) : idx (TT N X) (k : Int) = some (NL (pt N (ga X k))) := by
  unfold TT
  rw [gl_NLL (by simpa using h), List.getElem_map, ga_get h]

theorem pts_sorted {N : Nat} (hN : 1 ≤ N) {X : List Nat} (h : X.Pairwise (· < ·)) : Sorted (X.map (pt N)) := by
  unfold Sorted
  rw [List.pairwise_map]
  exact h.imp (fun {a b} h => by rw [pt_lex hN]; simpa using h)

/-- The reference's closing, told by the closed set. -/
theorem l8Close_clo {N : Nat} {a : Int × List (Int × List Int)} {X : List Nat} (ha : AlgN a N) (h4 : N ≤ 4) (hX : ∀ x ∈ X, x < N * N) (hXl : X.length ≤ 1000) : s_spec_l8Close (a.1, a.2) 2 (TT N X) = some (TT N (clo N a.2 X), true) := by
  have h16 : N * N ≤ 16 := Nat.mul_le_mul h4 h4
  have hN := ha.n1
  have hB : ∀ t ∈ X.map (pt N), TupN N 2 t := fun t ht => by
    obtain ⟨x, hx, rfl⟩ := List.mem_map.1 ht
    exact pt_tup (hX x hx)
  obtain ⟨A, e, h1, h2, h3, h4, h5⟩ := l8Close_ok ha hB (by simpa using hXl) (k := 2) (by omega)
  have hm := (mostA_le a.2).2
  have hlen : A.length ≤ N * N := by
    have := length_of_sub (M := (List.range (N * N)).map (pt N)) (sorted_nodup lexLt_irrefl h1) (fun t ht => by
      have htup := (h2 t ht).tup hB
      exact List.mem_map.2 ⟨cd N t, by simpa using cd_lt htup, pt_cd htup⟩)
    simpa using this
  have hcl := h5 (by omega)
  have hA : A = (clo N a.2 X).map (pt N) := by
    refine sorted_unique (le := fun a b => lexLt a b = true) (fun x y h h' => ?_) (perm_of_mem (sorted_nodup lexLt_irrefl h1) (sorted_nodup lexLt_irrefl (pts_sorted hN clo_asc)) fun t => ?_) h1 (pts_sorted hN clo_asc)
    · have := lexLt_trans h h'; rw [lexLt_irrefl] at this; cases this
    · rw [List.mem_map]
      constructor
      · intro ht
        have hg := h2 t ht
        have htup := hg.tup hB
        exact ⟨cd N t, clo_mem.2 ⟨cd_lt htup, by rw [pt_cd htup]; exact hg⟩, pt_cd htup⟩
      · rintro ⟨c, hc, rfl⟩
        exact (clo_mem.1 hc).2.least h3 hcl
  rw [show (2 : Int) = ((2 : Nat) : Int) from rfl]
  unfold TT
  rw [e, hA, show decide (((clo N a.2 X).map (pt N)).length ≤ mostA a.2) = true by rw [← hA]; simp; omega]

set_option linter.unusedVariables false
theorem l18Before_eq {N : Nat} {X Y : List Nat} (hN : 1 ≤ N) (hX : X.length ≤ 1000) : s_spec_l18Before (TT N X) (TT N Y) = some (ltT X Y) := by
  unfold s_spec_l18Before
  simp only [TT_len]
  rw [show (((X.length : Nat) : Int) != ((Y.length : Nat) : Int)) = !decide (X.length = Y.length) by
    by_cases e : X.length = Y.length <;> simp [e]; omega]
  unfold ltT
  by_cases e : X.length = Y.length
  · rw [show decide (X.length = Y.length) = true by simpa using e, Bool.not_true, cond_false, Bool.true_and, show decide (X.length < Y.length) = false by simp; omega, Bool.false_or]
    rw [forC0_find (R := Bool) (p := fun j => if ga X j = ga Y j then none else some (decide (ga X j < ga Y j))) (n := X.length) rfl (by omega) (fun j hj => by
      rw [TT_at hj, Option.bind_some, TT_at (by omega), Option.bind_some, l1Same_NL (by rw [pt_len]; omega), Option.bind_some]
      by_cases e : ga X j = ga Y j
      · rw [if_pos e, e, show (pt N (ga Y j) == pt N (ga Y j)) = true by simp, Bool.not_true, cond_false]
      · rw [if_neg e, show (pt N (ga X j) == pt N (ga Y j)) = false by simpa using fun h => e (pt_inj h), Bool.not_false, cond_true, Option.bind_some, Option.bind_some, l3Less_eq (by simp [pt_len]) (by rw [pt_len]; omega), Option.bind_some, pt_lex hN])]
    rw [lexLt_find X Y (by omega)]
    cases (List.range X.length).findSome? (fun j => if ga X j = ga Y j then none else some (decide (ga X j < ga Y j))) <;> rfl
  · rw [show decide (X.length = Y.length) = false by simpa using e, Bool.not_false, cond_true, Bool.false_and, Bool.or_false, dec_lt]

theorem l8SameT_eq {N : Nat} {X Y : List Nat} (hX : X.length ≤ 1000) : s_spec_l8Same (TT N X) (TT N Y) = some (X == Y) := by
  unfold s_spec_l8Same
  simp only [TT_len]
  obtain ⟨c, hc, hq, _⟩ := iter_inv (S := Int) (R := Bool) (step := fun s20 =>
  (bif ((decide (s20 < ((X.length : Nat) : Int))) && (decide (s20 < ((Y.length : Nat) : Int)))) then (idx (TT N X) s20).bind fun x32 =>
  (idx (TT N Y) s20).bind fun x36 =>
  (s_spec_l1Same x32 x36).bind fun r41 =>
  (bif (!r41) then some (.rt false) else some (.nx (w64 (s20 + 1)))) else some (.br s20)))
    (fun s => ∃ i : Nat, s = (i : Int) ∧ i ≤ X.length ∧ ∀ j, j < i → ga X j = ga Y j)
    (fun s => 2000 - s.toNat)
    (fun c => (∃ i : Nat, c = .br (i : Int) ∧ (X.length ≤ i ∨ Y.length ≤ i) ∧ ∀ j, j < i → ga X j = ga Y j) ∨ (c = .rt false ∧ X ≠ Y))
    FU 0 ⟨0, rfl, Nat.zero_le _, fun j h => by omega⟩ (by simp [FU]) (by
      rintro s ⟨i, rfl, hi, hp⟩
      simp only [dec_lt]
      by_cases h : i < X.length ∧ i < Y.length
      · rw [show decide (i < X.length) = true by simpa using h.1, show decide (i < Y.length) = true by simpa using h.2, Bool.and_self, cond_true, TT_at h.1, Option.bind_some, TT_at h.2, Option.bind_some, l1Same_NL (by rw [pt_len]; omega), Option.bind_some]
        by_cases e : ga X i = ga Y i
        · left
          rw [e, show (pt N (ga Y i) == pt N (ga Y i)) = true by simp, Bool.not_true, cond_false, w64_add1 (by omega)]
          refine ⟨_, rfl, ⟨i + 1, rfl, by omega, fun j hj => ?_⟩, by simp; omega⟩
          by_cases e2 : j = i
          · rw [e2]; exact e
          · exact hp j (by omega)
        · right
          rw [show (pt N (ga X i) == pt N (ga Y i)) = false by simpa using fun h => e (pt_inj h), Bool.not_false, cond_true]
          exact ⟨_, rfl, by intro s; simp, .inr ⟨rfl, fun h => e (by rw [h])⟩⟩
      · right
        rw [show (decide (i < X.length) && decide (i < Y.length)) = false by rw [Bool.and_eq_false_iff]; simp only [decide_eq_false_iff_not]; omega, cond_false]
        exact ⟨_, rfl, by intro s; simp, .inl ⟨i, rfl, by omega, hp⟩⟩)
  rw [hc, Option.bind_some]
  rcases hq with ⟨i, rfl, hi, hp⟩ | ⟨rfl, hne⟩
  · rw [after_br', beq_nat]
    congr 1
    rw [Bool.eq_iff_iff]
    simp only [beq_iff_eq]
    exact ⟨fun h => ga_ext h (fun k hk => hp k (by omega)), fun h => by rw [h]⟩
  · show some false = _
    rw [show (X == Y) = false by simpa using hne]

def TTs (N : Nat) (L : List (List Nat)) : List (List (List Int)) := L.map (TT N)

theorem TTs_len (N : Nat) (L : List (List Nat)) : (TTs N L).length = L.length := by simp [TTs]

theorem TTs_at {N : Nat} {L : List (List Nat)} {k : Nat} (h : k < L.length) : idx (TTs N L) (k : Int) = some (TT N L[k]) := by
  rw [idx_nat]; unfold TTs; rw [List.getElem?_map, List.getElem?_eq_getElem h]; rfl

theorem l18Put_eq {N : Nat} {L : List (List Nat)} {P : List Nat} (hN : 1 ≤ N) (hL : ∀ Q ∈ L, Q.length ≤ 1000) (hl : L.length ≤ 1000000000) : s_spec_l18Put (TTs N L) (TT N P) = some (TTs N (putS ltT L P)) := by
  unfold s_spec_l18Put
  obtain ⟨k, h1, h2, h3, h4⟩ := putS_at (lt := ltT) (L := L) P
  rw [iter_br (R := List (List (List Int))) (F := fun j : Nat => (j : Int)) (s := (0 : Int)) (t := (k : Int)) k (by omega) rfl (fun j hj => by
    have hjl : j < L.length := by omega
    rw [TTs_len, dec_lt, show decide (j < L.length) = true by simpa using hjl, cond_true, TTs_at hjl, Option.bind_some, l18Before_eq hN (hL _ (List.getElem_mem hjl)), Option.bind_some, h2 j hjl hj, cond_true, w64_add1 (by omega)]) (by
    rw [TTs_len, dec_lt]
    by_cases hk : k < L.length
    · rw [show decide (k < L.length) = true by simpa using hk, cond_true, TTs_at hk, Option.bind_some, l18Before_eq hN (hL _ (List.getElem_mem hk)), Option.bind_some, h3 hk, cond_false]
    · rw [show decide (k < L.length) = false by simpa using hk, cond_false])]
  simp only [Option.bind_some, after_br', TTs_len, dec_lt]
  have fin : (slc (TTs N L) 0 (k : Int)).bind (fun y74 =>
  (slc (TTs N L) (k : Int) (L.length : Int)).bind fun y77 =>
  (app ([]) y74).bind fun y83 =>
  (app y83 ([TT N P])).bind fun y88 =>
  (app y88 y77).bind fun y91 =>
  some y91) = some (TTs N (L.take k ++ P :: L.drop k)) := by
    have e : (L.length : Int) = ((TTs N L).length : Int) := by rw [TTs_len]
    rw [slc_take (by rw [TTs_len]; exact h1), Option.bind_some, e, slc_drop (by rw [TTs_len]; exact h1), Option.bind_some]
    have el := TTs_len N L
    rw [app_ok (by simp; omega), Option.bind_some, app_ok (by simp; omega), Option.bind_some, app_ok (by simp; omega), Option.bind_some]
    simp [TTs]
  by_cases hk : k < L.length
  · rw [show decide (k < L.length) = true by simpa using hk, cond_true, TTs_at hk, Option.bind_some, l8SameT_eq (hL _ (List.getElem_mem hk)), Option.bind_some, Option.bind_some]
    rw [h4, dif_pos hk]
    by_cases e : L[k] = P
    · rw [if_pos e, show (L[k] == P) = true by simpa using e, cond_true]
    · rw [if_neg e, show (L[k] == P) = false by simpa using e, cond_false, fin]
  · rw [show decide (k < L.length) = false by simpa using hk, cond_false, Option.bind_some, cond_false, fin, h4, dif_neg hk]

theorem marks_eq {X : List Nat} {M : Nat} (hX : ∀ x ∈ X, x < M) (hM : M ≤ 100000) : ∃ H, s_impl_marks (NL X) (M : Int) = some H ∧ H.length = M ∧ ∀ c, bt H c = decide (c ∈ X) := by
  unfold s_impl_marks
  rw [mks_ok rfl (by omega), Option.bind_some]
  have key : ∀ (X : List Nat) (H : List Bool) (i : Int), (∀ x ∈ X, x < H.length) → forR (S := (List Bool)) (R := (List Bool)) (fun _ x17 s14 =>
  (idx s14 x17).bind fun x23 =>
  some (.nx (List.set s14 (Int.toNat x17) true))) i (NL X) H = some (.br (X.foldl (fun H x => H.set x true) H)) := by
    intro X
    induction X with
    | nil => intro H i _; rfl
    | cons x X ih =>
      intro H i hx
      rw [NL_cons, forR_step (s' := H.set x true) (by rw [idx_bt (hx x (by simp)), Option.bind_some]; rfl), ih _ _ (fun y hy => by simpa using hx y (by simp [hy]))]; rfl
  rw [key X _ 0 (by simpa using hX), Option.bind_some, after_br']
  refine ⟨_, rfl, ?_, ?_⟩
  · have : ∀ (X : List Nat) (H : List Bool), (X.foldl (fun H x => H.set x true) H).length = H.length := by
      intro X; induction X with
      | nil => intro H; rfl
      | cons x X ih => intro H; rw [List.foldl_cons, ih]; simp
    rw [this]; simp
  · intro c
    have : ∀ (X : List Nat) (H : List Bool), (∀ x ∈ X, x < H.length) → bt (X.foldl (fun H x => H.set x true) H) c = (decide (c ∈ X) || bt H c) := by
      intro X; induction X with
      | nil => intro H _; simp
      | cons x X ih =>
        intro H hx
        rw [List.foldl_cons, ih _ (fun y hy => by simpa using hx y (by simp [hy])), bt_set (hx x (by simp))]
        rw [Bool.eq_iff_iff]; simp only [Bool.or_eq_true, decide_eq_true_eq, List.mem_cons]
        exact ⟨fun h => h.elim (fun h => .inl (.inr h)) (fun h => h.elim (fun h => .inl (.inl h)) .inr), fun h => h.elim (fun h => h.elim (fun h => .inr (.inl h)) .inl) (fun h => .inr (.inr h))⟩
    rw [this X _ (by simpa using hX)]
    have : bt (List.replicate M false) c = false := by
      unfold bt; rw [List.getD_eq_getElem?_getD, List.getElem?_replicate]; split <;> rfl
    rw [this, Bool.or_false]

theorem hasNot_eq {X : List Nat} {x : Nat} : s_impl_hasNot (NL X) (x : Int) = some (!decide (x ∈ X)) := by
  unfold s_impl_hasNot
  rw [forR_find (R := Bool) (p := fun y => if (x : Int) = y then some false else none) (s := ()) 0 (NL X) (fun i y _ => by
    by_cases e : (x : Int) = y
    · rw [if_pos e, show ((x : Int) == y) = true by simpa using e, cond_true]
    · rw [if_neg e, show ((x : Int) == y) = false by simpa using e, cond_false])]
  by_cases h : x ∈ X
  · have : (NL X).findSome? (fun y => if (x : Int) = y then some false else none) = some false := by
      cases hc : (NL X).findSome? (fun y => if (x : Int) = y then some false else none) with
      | none =>
        rw [List.findSome?_eq_none_iff] at hc
        have := hc (x : Int) (List.mem_map.2 ⟨x, h, rfl⟩)
        simp at this
      | some b =>
        obtain ⟨y, _, hy⟩ := List.exists_of_findSome?_eq_some hc
        split at hy
        · exact hy.symm
        · cases hy
    rw [this]; simp [h, after]
  · have : (NL X).findSome? (fun y => if (x : Int) = y then some false else none) = none := by
      rw [List.findSome?_eq_none_iff]
      intro y hy
      obtain ⟨z, hz, rfl⟩ := List.mem_map.1 hy
      exact if_neg (fun e => h (by rw [show x = z by omega]; exact hz))
    rw [this]; simp [h, after]

set_option linter.unusedVariables false
noncomputable def nxP (N : Nat) (ops : List (Int × List Int)) (X : List Nat) : List (List Nat) := (List.range (N * N)).map fun y => if y ∈ X then X else clo N ops (X ++ [y])
theorem nxP_len {N : Nat} {ops : List (Int × List Int)} {X : List Nat} : (nxP N ops X).length = N * N := by simp [nxP]

theorem nxP_at {N k : Nat} {ops : List (Int × List Int)} {X : List Nat} (h : k < (nxP N ops X).length) : (nxP N ops X)[k] = if k ∈ X then X else clo N ops (X ++ [k]) := by simp [nxP]

theorem reach_clo {N : Nat} {ops : List (Int × List Int)} {X : List Nat} (h : Reach [clo N ops []] (nxP N ops) X) : ∃ Y, X = clo N ops Y := by
  induction h with
  | init h => exact ⟨[], by simpa using h⟩
  | step _ hy ih =>
    obtain ⟨k, hk, e⟩ := List.mem_iff_getElem.1 hy
    rw [nxP_at hk] at e
    split at e
    · rw [← e]; exact ih
    · exact ⟨_, e.symm⟩

theorem reach_small {N : Nat} {ops : List (Int × List Int)} {X : List Nat} (h : Reach [clo N ops []] (nxP N ops) X) : (∀ x ∈ X, x < N * N) ∧ X.length ≤ N * N ∧ X.Pairwise (· < ·) := by
  obtain ⟨Y, rfl⟩ := reach_clo h
  exact ⟨clo_lt, clo_len, clo_asc⟩

theorem small16 {N : Nat} (h4 : N ≤ 4) : N * N ≤ 16 := Nat.mul_le_mul h4 h4

theorem implP_loop {N : Nat} {a : Int × List (Int × List Int)} (ha : AlgN a N) (h4 : N ≤ 4) : ∃ c, iter (S := (List (List Int)) × Int × (List (ByteArray × Bool))) (R := (List (Int × (List (List Int)))) × Bool) (fun s724 =>
  (bif (decide (s724.2.1 < (s724.1.length : Int))) then (forC (S := (List (List Int)) × (List (ByteArray × Bool))) (R := (List (Int × (List (List Int)))) × Bool) (fun k846 s844 =>
  (idx s844.1 s724.2.1).bind fun x856 =>
  (s_impl_hasNot x856 k846).bind fun r861 =>
  (bif (!r861) then some (.nx (s844.1, s844.2)) else (idx s844.1 s724.2.1).bind fun x863 =>
  (s_impl_marks x863 (w64 ((N : Int) * (N : Int)))).bind fun r868 =>
  (idx r868 k846).bind fun x870 =>
  (s_impl_closePairs__take2 (N : Int) a.2 (List.set r868 (Int.toNat k846) true)).bind fun r874 =>
  (s_impl_marked r874).bind fun r877 =>
  (s_impl_keyOf r877).bind fun r880 =>
  (bif (!((mget s844.2 r880).getD false)) then (app s844.1 ([r877])).bind fun y904 =>
  some (y904, mput s844.2 r880 true) else some (s844.1, s844.2)).bind fun s893 =>
  (bif (decide (200 < (s893.1.length : Int))) then some (.rt ([], false)) else some (.nx (s893.1, s893.2))))) 0 (w64 ((N : Int) * (N : Int))) (s724.1, s724.2.2)).bind fun o848 => after o848 (fun r_ => some (.rt r_)) (fun s844 =>
  some (.nx (s844.1, w64 (s724.2.1 + 1), s844.2))) else some (.br (s724.1, s724.2.1, s724.2.2)))) FU ([NL (clo N a.2 [])], 0, mput ([]) (kkey (clo N a.2 [])) true) = some c ∧
    ((∃ M i seen, c = .br (NLL M, i, seen) ∧ M.Nodup ∧ (∀ x, Reach [clo N a.2 []] (nxP N a.2) x ↔ x ∈ M) ∧ M.length ≤ 200) ∨ (c = .rt ([], false) ∧ ∃ M : List (List Nat), M.Nodup ∧ (∀ x ∈ M, Reach [clo N a.2 []] (nxP N a.2) x) ∧ 200 < M.length)) := by
  have h16 := small16 h4
  have eNN : w64 ((N : Int) * (N : Int)) = ((N * N : Nat) : Int) := w64_mul (by omega)
  rw [eNN]
  have hsm : ∀ {X}, Reach [clo N a.2 []] (nxP N a.2) X → ∀ x ∈ X, x < 65536 := fun h x hx => by have := (reach_small h).1 x hx; omega
  have h0 : Reach [clo N a.2 []] (nxP N a.2) (clo N a.2 []) := .init (by simp)
  have := iter_inv (S := (List (List Int)) × Int × (List (ByteArray × Bool))) (R := (List (Int × (List (List Int)))) × Bool) (step := fun s724 =>
  (bif (decide (s724.2.1 < (s724.1.length : Int))) then (forC (S := (List (List Int)) × (List (ByteArray × Bool))) (R := (List (Int × (List (List Int)))) × Bool) (fun k846 s844 =>
  (idx s844.1 s724.2.1).bind fun x856 =>
  (s_impl_hasNot x856 k846).bind fun r861 =>
  (bif (!r861) then some (.nx (s844.1, s844.2)) else (idx s844.1 s724.2.1).bind fun x863 =>
  (s_impl_marks x863 ((N * N : Nat) : Int)).bind fun r868 =>
  (idx r868 k846).bind fun x870 =>
  (s_impl_closePairs__take2 (N : Int) a.2 (List.set r868 (Int.toNat k846) true)).bind fun r874 =>
  (s_impl_marked r874).bind fun r877 =>
  (s_impl_keyOf r877).bind fun r880 =>
  (bif (!((mget s844.2 r880).getD false)) then (app s844.1 ([r877])).bind fun y904 =>
  some (y904, mput s844.2 r880 true) else some (s844.1, s844.2)).bind fun s893 =>
  (bif (decide (200 < (s893.1.length : Int))) then some (.rt ([], false)) else some (.nx (s893.1, s893.2))))) 0 ((N * N : Nat) : Int) (s724.1, s724.2.2)).bind fun o848 => after o848 (fun r_ => some (.rt r_)) (fun s844 =>
  some (.nx (s844.1, w64 (s724.2.1 + 1), s844.2))) else some (.br (s724.1, s724.2.1, s724.2.2))))
    (I := fun s => ∃ M i seen, s = (NLL M, ((i : Nat) : Int), seen) ∧ Wl [clo N a.2 []] (nxP N a.2) M i 0 ∧ i ≤ M.length ∧ M.length ≤ 200 ∧ SeenOk seen M) (m := fun s => 201 - s.2.1.toNat)
    (Q := fun c => (∃ M i seen, c = .br (NLL M, i, seen) ∧ M.Nodup ∧ (∀ x, Reach [clo N a.2 []] (nxP N a.2) x ↔ x ∈ M) ∧ M.length ≤ 200) ∨ (c = .rt ([], false) ∧ ∃ M : List (List Nat), M.Nodup ∧ (∀ x ∈ M, Reach [clo N a.2 []] (nxP N a.2) x) ∧ 200 < M.length))
    FU ([NL (clo N a.2 [])], 0, mput ([]) (kkey (clo N a.2 [])) true) ⟨[clo N a.2 []], 0, _, rfl, .start (by simp), by simp, by simp, fun T hT => by
      rw [mget_put]
      by_cases e : T = clo N a.2 []
      · subst e; simp
      · rw [if_neg (fun h' => e ((kkey_inj hT (hsm h0)).1 h'))]; simp [mget, e]⟩ (by show 201 - _ < 4611686018427387904; omega) (fun s hI => by
    obtain ⟨M, i, seen, rfl, hw, hi, hM2, hseen⟩ := hI
    simp only [NLL_len, dec_lt]
    by_cases c : i < M.length
    case neg =>
      right
      refine ⟨_, by rw [show decide (i < M.length) = false by simpa using c, cond_false], by intro s'; simp, .inl ⟨M, _, seen, rfl, hw.nd, hw.whole (by omega), hM2⟩⟩
    rw [show decide (i < M.length) = true by simpa using c, cond_true]
    rcases forC0_hoare (S := (List (List Int)) × (List (ByteArray × Bool))) (R := (List (Int × (List (List Int)))) × Bool) (step := fun k846 s844 =>
  (idx s844.1 (i : Int)).bind fun x856 =>
  (s_impl_hasNot x856 k846).bind fun r861 =>
  (bif (!r861) then some (.nx (s844.1, s844.2)) else (idx s844.1 (i : Int)).bind fun x863 =>
  (s_impl_marks x863 ((N * N : Nat) : Int)).bind fun r868 =>
  (idx r868 k846).bind fun x870 =>
  (s_impl_closePairs__take2 (N : Int) a.2 (List.set r868 (Int.toNat k846) true)).bind fun r874 =>
  (s_impl_marked r874).bind fun r877 =>
  (s_impl_keyOf r877).bind fun r880 =>
  (bif (!((mget s844.2 r880).getD false)) then (app s844.1 ([r877])).bind fun y904 =>
  some (y904, mput s844.2 r880 true) else some (s844.1, s844.2)).bind fun s893 =>
  (bif (decide (200 < (s893.1.length : Int))) then some (.rt ([], false)) else some (.nx (s893.1, s893.2)))))
      (fun k s => ∃ M seen, s = (NLL M, seen) ∧ Wl [clo N a.2 []] (nxP N a.2) M i k ∧ i < M.length ∧ M.length ≤ 200 ∧ SeenOk seen M) (fun _ => False)
      (fun r => r = ([], false) ∧ ∃ M : List (List Nat), M.Nodup ∧ (∀ x ∈ M, Reach [clo N a.2 []] (nxP N a.2) x) ∧ 200 < M.length) (n := N * N) (hi := ((N * N : Nat) : Int)) (s := (NLL M, seen)) rfl (by omega) ⟨M, seen, rfl, hw, c, hM2, hseen⟩ (fun k s hk hI => by
        obtain ⟨M, seen, rfl, hw, hi, hM2, hseen⟩ := hI
        have hMi := reach_small (hw.reach _ (List.getElem_mem hi))
        have hk' : k < (nxP N a.2 M[i]).length := by rw [nxP_len]; exact hk
        have ej := nxP_at hk'
        simp only [gl_NLL hi, Option.bind_some, hasNot_eq]
        by_cases hin0 : k ∈ M[i]
        · left
          rw [show (!!decide (k ∈ M[i])) = true by simpa using hin0, cond_true]
          rw [if_pos hin0] at ej
          exact ⟨_, rfl, M, seen, rfl, hw.old hi hk' (by rw [ej]; exact List.getElem_mem hi), hi, hM2, hseen⟩
        rw [show (!!decide (k ∈ M[i])) = false by simpa using hin0, cond_false]
        rw [if_neg hin0] at ej
        obtain ⟨H, hm1, hm2, hm3⟩ := marks_eq (X := M[i]) (M := N * N) hMi.1 (by omega)
        obtain ⟨H', hc1, hc2⟩ := closePairs_clo (H0 := H.set k true) ha (by simp [hm2])
        have ecl : clo N a.2 (mk (H.set k true)) = clo N a.2 (M[i] ++ [k]) := clo_congr (fun x => by
          rw [mk_mem, bt_set (by omega), hm3]
          simp only [List.length_set, hm2, Bool.or_eq_true, decide_eq_true_eq, List.mem_append, List.mem_singleton]
          exact ⟨fun h => h.2.symm, fun h => ⟨h.elim (hMi.1 x) (fun h => by omega), h.symm⟩⟩)
        rw [ecl] at hc2
        have hj : Reach [clo N a.2 []] (nxP N a.2) (clo N a.2 (M[i] ++ [k])) := by
          have := Reach.step (hw.reach _ (List.getElem_mem hi)) (List.getElem_mem hk')
          rwa [ej] at this
        have hjs := reach_small hj
        rw [hm1, Option.bind_some, idx_bt (by omega), Option.bind_some, Int.toNat_natCast, hc1, Option.bind_some, hc2, Option.bind_some, keyOf_eq (by omega), Option.bind_some]
        rw [hseen _ (hsm hj)]
        by_cases hin : clo N a.2 (M[i] ++ [k]) ∈ M
        · left
          rw [show (!decide (clo N a.2 (M[i] ++ [k]) ∈ M)) = false by simpa using hin, cond_false, Option.bind_some]
          simp only [NLL_len]
          rw [show decide ((200 : Int) < (M.length : Int)) = false by simp; omega, cond_false]
          exact ⟨_, rfl, M, seen, rfl, hw.old hi hk' (by rw [ej]; exact hin), hi, hM2, hseen⟩
        · rw [show (!decide (clo N a.2 (M[i] ++ [k]) ∈ M)) = true by simpa using hin, cond_true, app_ok (by simp; omega), Option.bind_some, Option.bind_some]
          have hnew := hw.new hi hk' (by rw [ej]; exact hin)
          rw [ej] at hnew
          have el : (NLL M ++ [NL (clo N a.2 (M[i] ++ [k]))]) = NLL (M ++ [clo N a.2 (M[i] ++ [k])]) := by rw [NLL_app]; rfl
          rw [el]
          simp only [NLL_len]
          by_cases h200 : 200 < (M ++ [clo N a.2 (M[i] ++ [k])]).length
          · right; right
            rw [show decide ((200 : Int) < ((M ++ [clo N a.2 (M[i] ++ [k])]).length : Int)) = true by simp at h200 ⊢; omega, cond_true]
            exact ⟨_, rfl, rfl, _, hnew.nd, hnew.reach, h200⟩
          · left
            rw [show decide ((200 : Int) < ((M ++ [clo N a.2 (M[i] ++ [k])]).length : Int)) = false by simp at h200 ⊢; omega, cond_false]
            exact ⟨_, rfl, _, _, rfl, hnew, by simp; omega, by omega, hseen.add (hsm hj)⟩) with ⟨s', h1, h2 | h2⟩ | ⟨r, h1, h2, h3⟩
    · obtain ⟨M', seen', rfl, hw', hi', hM', hs'⟩ := h2
      left
      refine ⟨_, by rw [h1]; rfl, ⟨M', i + 1, seen', by rw [w64_add1 (by omega)], hw'.next hi' (by simp [nxP_len]), by omega, hM', hs'⟩, ?_⟩
      rw [w64_add1 (by omega)]
      simp only [Int.toNat_natCast]; omega
    · exact h2.elim
    · right
      refine ⟨.rt r, by rw [h1]; rfl, by intro s'; simp, .inr ⟨by rw [h2], h3⟩⟩)
  obtain ⟨c, h1, h2, _⟩ := this
  exact ⟨c, h1, h2⟩

set_option linter.unusedVariables false
theorem putT_len {L : List (List Nat)} {P : List Nat} (hs : L.Pairwise fun a b => ltT a b = true) : (putS ltT L P).length = if P ∈ L then L.length else L.length + 1 := by
  by_cases h : P ∈ L
  · rw [if_pos h, putS_old ltT_irr (fun h h' => ltT_tr h h') hs h]
  · rw [if_neg h, putS_new h]

structure LnP (N : Nat) (ops : List (Int × List Int)) (out line : List (List Nat)) (i k : Nat) : Prop where
  wl : Wl [clo N ops []] (nxP N ops) line i k
  sorted : out.Pairwise fun a b => ltT a b = true
  perm : ∀ x, x ∈ out ↔ x ∈ line
  len : out.length = line.length

theorem dig_pt {N y : Nat} (hy : y < N * N) : dig N 2 y = pt N y := by
  have h := pt_tup hy
  have e := cd_pt N y
  obtain ⟨u, v, e2, hu, hv⟩ := tup2 h
  rw [e2] at e ⊢
  rw [← e]
  exact dig2 hu hv

theorem findPt {N : Nat} {X : List Nat} {y : Nat} (hN : 1 ≤ N) (hX : X.Pairwise (· < ·)) (hl : X.length ≤ 1000) : ∃ p, s_spec_l8Find (TT N X) (NL (pt N y)) = some (p, decide (y ∈ X)) := by
  unfold TT
  rw [l8Find_eq (pts_sorted hN hX) (fun u hu => by obtain ⟨x, _, rfl⟩ := List.mem_map.1 hu; rfl) (by simp; omega) (by rw [pt_len]; omega)]
  refine ⟨((findPos (X.map (pt N)) (pt N y) : Nat) : Int), ?_⟩
  congr 2
  rw [Bool.eq_iff_iff]
  simp only [List.contains_iff_mem, decide_eq_true_eq, List.mem_map]
  exact ⟨fun ⟨x, hx, e⟩ => by rw [← pt_inj e]; exact hx, fun h => ⟨y, h, rfl⟩⟩

theorem specP_loop {N : Nat} {a : Int × List (Int × List Int)} (ha : AlgN a N) (h4 : N ≤ 4) : ∃ out line i, iter (S := (List (List (List Int))) × (List (List (List Int))) × Int) (R := (List (List (List Int))) × Bool) (fun s3364 =>
  (bif ((decide (s3364.2.2 < (s3364.2.1.length : Int))) && (decide ((s3364.1.length : Int) ≤ 200))) then (iter (S := (List (List (List Int))) × (List (List (List Int))) × Int) (R := (List (List (List Int))) × Bool) (fun s4482 =>
  (bif ((decide (s4482.2.2 < (w64 ((N : Int) * (N : Int))))) && (decide ((s4482.1.length : Int) ≤ 200))) then (s_spec_l2Args (N : Int) 2 s4482.2.2).bind fun r4504 =>
  (idx s4482.2.1 s3364.2.2).bind fun x4506 =>
  (s_spec_l8Find x4506 r4504).bind fun r4511 =>
  (bif r4511.2 then some (.nx (s4482.1, s4482.2.1, w64 (s4482.2.2 + 1))) else (idx s4482.2.1 s3364.2.2).bind fun x4711 =>
  (app ([]) x4711).bind fun y4719 =>
  (app y4719 ([r4504])).bind fun y4725 =>
  (s_spec_l8Close (a.1, a.2) 2 y4725).bind fun r4729 =>
  (s_spec_l18Put s4482.1 r4729.1).bind fun r4732 =>
  (bif (decide ((s4482.1.length : Int) < (r4732.length : Int))) then (app s4482.2.1 ([r4729.1])).bind fun y4738 =>
  some (.nx (r4732, y4738, w64 (s4482.2.2 + 1))) else some (.nx (s4482.1, s4482.2.1, w64 (s4482.2.2 + 1))))) else some (.br (s4482.1, s4482.2.1, s4482.2.2)))) FU (s3364.1, s3364.2.1, 0)).bind fun o4486 => after o4486 (fun r_ => some (.rt r_)) (fun s4482 =>
  some (.nx (s4482.1, s4482.2.1, w64 (s3364.2.2 + 1)))) else some (.br (s3364.1, s3364.2.1, s3364.2.2)))) FU ([TT N (clo N a.2 [])], [TT N (clo N a.2 [])], 0) = some (.br (TTs N out, TTs N line, i)) ∧
    out.Nodup ∧ (∀ x ∈ out, Reach [clo N a.2 []] (nxP N a.2) x) ∧ (out.Pairwise fun a b => ltT a b = true) ∧ (out.length ≤ 200 → ∀ x, Reach [clo N a.2 []] (nxP N a.2) x ↔ x ∈ out) := by
  have h16 := small16 h4
  have hN := ha.n1
  have eNN : w64 ((N : Int) * (N : Int)) = ((N * N : Nat) : Int) := w64_mul (by omega)
  rw [eNN]
  have := iter_inv (S := (List (List (List Int))) × (List (List (List Int))) × Int) (R := (List (List (List Int))) × Bool) (step := fun s3364 =>
  (bif ((decide (s3364.2.2 < (s3364.2.1.length : Int))) && (decide ((s3364.1.length : Int) ≤ 200))) then (iter (S := (List (List (List Int))) × (List (List (List Int))) × Int) (R := (List (List (List Int))) × Bool) (fun s4482 =>
  (bif ((decide (s4482.2.2 < ((N * N : Nat) : Int))) && (decide ((s4482.1.length : Int) ≤ 200))) then (s_spec_l2Args (N : Int) 2 s4482.2.2).bind fun r4504 =>
  (idx s4482.2.1 s3364.2.2).bind fun x4506 =>
  (s_spec_l8Find x4506 r4504).bind fun r4511 =>
  (bif r4511.2 then some (.nx (s4482.1, s4482.2.1, w64 (s4482.2.2 + 1))) else (idx s4482.2.1 s3364.2.2).bind fun x4711 =>
  (app ([]) x4711).bind fun y4719 =>
  (app y4719 ([r4504])).bind fun y4725 =>
  (s_spec_l8Close (a.1, a.2) 2 y4725).bind fun r4729 =>
  (s_spec_l18Put s4482.1 r4729.1).bind fun r4732 =>
  (bif (decide ((s4482.1.length : Int) < (r4732.length : Int))) then (app s4482.2.1 ([r4729.1])).bind fun y4738 =>
  some (.nx (r4732, y4738, w64 (s4482.2.2 + 1))) else some (.nx (s4482.1, s4482.2.1, w64 (s4482.2.2 + 1))))) else some (.br (s4482.1, s4482.2.1, s4482.2.2)))) FU (s3364.1, s3364.2.1, 0)).bind fun o4486 => after o4486 (fun r_ => some (.rt r_)) (fun s4482 =>
  some (.nx (s4482.1, s4482.2.1, w64 (s3364.2.2 + 1)))) else some (.br (s3364.1, s3364.2.1, s3364.2.2))))
    (I := fun s => ∃ out line i, s = (TTs N out, TTs N line, ((i : Nat) : Int)) ∧ (LnP N a.2 out line i 0 ∧ i ≤ line.length ∨ (∃ i' k', LnP N a.2 out line i' k') ∧ 200 < out.length) ∧ out.length ≤ 201 ∧ i ≤ 5001) (m := fun s => 5002 - s.2.2.toNat)
    (Q := fun c => ∃ out line i, c = .br (TTs N out, TTs N line, i) ∧ out.Nodup ∧ (∀ x ∈ out, Reach [clo N a.2 []] (nxP N a.2) x) ∧ (out.Pairwise fun a b => ltT a b = true) ∧ (out.length ≤ 200 → ∀ x, Reach [clo N a.2 []] (nxP N a.2) x ↔ x ∈ out))
    FU ([TT N (clo N a.2 [])], [TT N (clo N a.2 [])], 0) ⟨[clo N a.2 []], [clo N a.2 []], 0, rfl, .inl ⟨⟨.start (by simp), by simp, by simp, rfl⟩, by simp⟩, by simp, by omega⟩ (by show 5002 - _ < 4611686018427387904; omega) (fun s hI => by
    obtain ⟨out, line, i, rfl, hd, hml, hi5⟩ := hI
    simp only [TTs_len]
    rw [show (200 : Int) = ((200 : Nat) : Int) from rfl]
    by_cases hmo : 200 < out.length
    · right
      obtain ⟨i', k', hn⟩ : ∃ i' k', LnP N a.2 out line i' k' := by
        rcases hd with ⟨h, _⟩ | ⟨h, _⟩
        · exact ⟨_, _, h⟩
        · exact h
      refine ⟨_, by rw [show decide ((out.length : Int) ≤ ((200 : Nat) : Int)) = false by rw [dec_le]; simpa using hmo, Bool.and_false, cond_false], by intro s'; simp, out, line, _, rfl, sorted_nodup ltT_irr hn.sorted, fun x hx => hn.wl.reach x ((hn.perm x).1 hx), hn.sorted, fun h => by omega⟩
    obtain ⟨hn, hil⟩ : LnP N a.2 out line i 0 ∧ i ≤ line.length := by
      rcases hd with h | ⟨_, h⟩
      · exact h
      · exact absurd h hmo
    have hll := hn.len
    by_cases c : i < line.length
    case neg =>
      right
      refine ⟨_, by rw [show decide ((i : Int) < (line.length : Int)) = false by rw [dec_lt]; simpa using c, Bool.false_and, cond_false], by intro s'; simp, out, line, _, rfl, sorted_nodup ltT_irr hn.sorted, fun x hx => hn.wl.reach x ((hn.perm x).1 hx), hn.sorted, fun _ x => (hn.wl.whole (by omega) x).trans (hn.perm x).symm⟩
    left
    rw [show decide ((i : Int) < (line.length : Int)) = true by rw [dec_lt]; simpa using c, show decide ((out.length : Int) ≤ ((200 : Nat) : Int)) = true by rw [dec_le]; simp; omega, Bool.and_true, cond_true]
    obtain ⟨c', h1, ⟨out', line', k', rfl, hln, hil', hk', hml', hend⟩, _⟩ := iter_inv (S := (List (List (List Int))) × (List (List (List Int))) × Int) (R := (List (List (List Int))) × Bool) (step := fun s4482 =>
  (bif ((decide (s4482.2.2 < ((N * N : Nat) : Int))) && (decide ((s4482.1.length : Int) ≤ ((200 : Nat) : Int)))) then (s_spec_l2Args (N : Int) 2 s4482.2.2).bind fun r4504 =>
  (idx s4482.2.1 (i : Int)).bind fun x4506 =>
  (s_spec_l8Find x4506 r4504).bind fun r4511 =>
  (bif r4511.2 then some (.nx (s4482.1, s4482.2.1, w64 (s4482.2.2 + 1))) else (idx s4482.2.1 (i : Int)).bind fun x4711 =>
  (app ([]) x4711).bind fun y4719 =>
  (app y4719 ([r4504])).bind fun y4725 =>
  (s_spec_l8Close (a.1, a.2) 2 y4725).bind fun r4729 =>
  (s_spec_l18Put s4482.1 r4729.1).bind fun r4732 =>
  (bif (decide ((s4482.1.length : Int) < (r4732.length : Int))) then (app s4482.2.1 ([r4729.1])).bind fun y4738 =>
  some (.nx (r4732, y4738, w64 (s4482.2.2 + 1))) else some (.nx (s4482.1, s4482.2.1, w64 (s4482.2.2 + 1))))) else some (.br (s4482.1, s4482.2.1, s4482.2.2))))
      (I := fun s => ∃ out line k, s = (TTs N out, TTs N line, ((k : Nat) : Int)) ∧ LnP N a.2 out line i k ∧ i < line.length ∧ k ≤ N * N ∧ out.length ≤ 201) (m := fun s => 65 - s.2.2.toNat)
      (Q := fun c => ∃ out line k, c = .br (TTs N out, TTs N line, ((k : Nat) : Int)) ∧ LnP N a.2 out line i k ∧ i < line.length ∧ k ≤ N * N ∧ out.length ≤ 201 ∧ (k = N * N ∨ 200 < out.length))
      FU (TTs N out, TTs N line, 0) ⟨out, line, 0, rfl, hn, c, by omega, hml⟩ (by show 65 - _ < 4611686018427387904; omega) (fun s hI => by
        obtain ⟨out, line, k, rfl, hn, hi, hkl, hml⟩ := hI
        simp only [TTs_len, dec_lt, dec_le]
        by_cases e : k < N * N ∧ out.length ≤ 200
        case neg =>
          right
          refine ⟨_, by rw [show (decide (k < N * N) && decide (out.length ≤ 200)) = false by rw [Bool.and_eq_false_iff]; simp only [decide_eq_false_iff_not]; omega, cond_false], by intro s'; simp, out, line, k, rfl, hn, hi, hkl, hml, by omega⟩
        obtain ⟨hk, hmo⟩ := e
        left
        rw [show (decide (k < N * N) && decide (out.length ≤ 200)) = true by simp [hk, hmo], cond_true]
        have hMi := reach_small (hn.wl.reach _ (List.getElem_mem hi))
        have hk' : k < (nxP N a.2 line[i]).length := by rw [nxP_len]; exact hk
        have ej := nxP_at hk'
        have hol : ∀ Q ∈ out, Q.length ≤ 1000 := fun Q hQ => by have := (reach_small (hn.wl.reach _ ((hn.perm Q).1 hQ))).2.1; omega
        have hll := hn.len
        obtain ⟨p, hf⟩ := findPt (y := k) hN hMi.2.2 (by omega)
        have ea : s_spec_l2Args (N : Int) 2 (k : Int) = some (NL (pt N k)) := by
          rw [show (2 : Int) = ((2 : Nat) : Int) from rfl, l2ArgsN (by omega) hN (by omega), dig_pt hk]
        simp only [ea, Option.bind_some, TTs_at hi, hf]
        rw [w64_add1 (by omega)]
        by_cases hin0 : k ∈ line[i]
        · rw [show decide (k ∈ line[i]) = true by simpa using hin0, cond_true]
          rw [if_pos hin0] at ej
          refine ⟨_, rfl, ⟨out, line, k + 1, rfl, ⟨hn.wl.old hi hk' (by rw [ej]; exact List.getElem_mem hi), hn.sorted, hn.perm, hn.len⟩, hi, by omega, hml⟩, ?_⟩
          simp only [Int.toNat_natCast]; omega
        rw [show decide (k ∈ line[i]) = false by simpa using hin0, cond_false]
        rw [if_neg hin0] at ej
        have hTl := TT_len N line[i]
        rw [app_ok (by simp; omega), Option.bind_some, List.nil_append, app_ok (by simp; omega), Option.bind_some]
        rw [show TT N line[i] ++ [NL (pt N k)] = TT N (line[i] ++ [k]) by simp [TT, NLL]]
        rw [l8Close_clo ha h4 (fun x hx => by
          rcases List.mem_append.1 hx with h | h
          · exact hMi.1 x h
          · simp at h; omega) (by simp; omega), Option.bind_some]
        rw [l18Put_eq hN hol (by omega), Option.bind_some]
        simp only [TTs_len, putT_len hn.sorted]
        by_cases hin : clo N a.2 (line[i] ++ [k]) ∈ out
        · rw [if_pos hin, show decide (out.length < out.length) = false by simp, cond_false]
          refine ⟨_, rfl, ⟨out, line, k + 1, rfl, ⟨hn.wl.old hi hk' (by rw [ej]; exact (hn.perm _).1 hin), hn.sorted, hn.perm, hn.len⟩, hi, by omega, hml⟩, ?_⟩
          simp only [Int.toNat_natCast]; omega
        · rw [if_neg hin, show decide (out.length < out.length + 1) = true by simp, cond_true, app_ok (by rw [TTs_len]; simp; omega), Option.bind_some]
          have hnew := hn.wl.new hi hk' (by rw [ej]; exact fun h => hin ((hn.perm _).2 h))
          rw [ej] at hnew
          refine ⟨_, rfl, ⟨putS ltT out (clo N a.2 (line[i] ++ [k])), line ++ [clo N a.2 (line[i] ++ [k])], k + 1, by simp [TTs], ⟨hnew, putS_sorted (lt := ltT) ltT_tr ltT_tot hn.sorted _, fun x => by rw [putS_mem, hn.perm]; simp, by rw [putS_new hin]; simp; omega⟩, by simp; omega, by omega, by rw [putS_new hin]; omega⟩, ?_⟩
          simp only [Int.toNat_natCast]; omega)
    refine ⟨_, by rw [h1]; rfl, ⟨out', line', i + 1, by rw [w64_add1 (by omega)], ?_, hml', by omega⟩, ?_⟩
    · rcases hend with e | e
      · subst e
        exact .inl ⟨⟨hln.wl.next hil' (by simp [nxP_len]), hln.sorted, hln.perm, hln.len⟩, by omega⟩
      · exact .inr ⟨⟨_, _, hln⟩, e⟩
    · rw [w64_add1 (by omega)]
      simp only [Int.toNat_natCast]; omega)
  obtain ⟨c, h1, ⟨out, line, i, rfl, h2⟩, _⟩ := this
  exact ⟨out, line, i, h1, h2⟩

set_option linter.unusedVariables false
abbrev RelI := Int × List (List Int)

def BRS (l : List RelI) : Prop := l.length ≤ 1048576 ∧ ∀ x ∈ l, BR x

structure PR (N : Nat) (ops : List (Int × List Int)) (S : List (List Nat)) : Prop where
  sorted : S.Pairwise fun a b => ltT a b = true
  l200 : S.length ≤ 200
  all : ∀ X, Reach [clo N ops []] (nxP N ops) X ↔ X ∈ S

theorem PR.small {N : Nat} {ops : List (Int × List Int)} {S : List (List Nat)} (h : PR N ops S) {X : List Nat} (hX : X ∈ S) : (∀ x ∈ X, x < N * N) ∧ X.length ≤ N * N ∧ X.Pairwise (· < ·) := reach_small ((h.all X).2 hX)

def relT (N : Nat) (X : List Nat) : RelI := (2, TT N X)

theorem relT_BR {N : Nat} {ops : List (Int × List Int)} {S : List (List Nat)} (h4 : N ≤ 4) (h : PR N ops S) : BRS (S.map (relT N)) := by
  have h16 := small16 h4
  refine ⟨by have := h.l200; simp; omega, fun x hx => ?_⟩
  obtain ⟨X, hX, rfl⟩ := List.mem_map.1 hx
  refine ⟨?_, fun y hy => ?_⟩
  · show (TT N X).length ≤ 1048576
    rw [TT_len]; have := (h.small hX).2.1; omega
  · have hy : y ∈ NLL (X.map (pt N)) := hy
    unfold NLL at hy
    obtain ⟨t, ht, rfl⟩ := List.mem_map.1 hy
    obtain ⟨c, _, rfl⟩ := List.mem_map.1 ht
    unfold B1; rw [NL_len, pt_len]; omega

theorem toRel_loop {R : Type} {N : Nat} {X : List Nat} (hN : 1 ≤ N) (h8 : N ≤ 8) (hX : ∀ x ∈ X, x < N * N) (hl : X.length ≤ 1000) : forR (S := (List (List Int))) (R := R) (fun _ x1019 s1016 =>
  (nz (N : Int)).bind fun u1028 =>
  (nz (N : Int)).bind fun u1029 =>
  (app s1016 ([[w64 (Int.tdiv x1019 (N : Int)), Int.tmod x1019 (N : Int)]])).bind fun y1035 =>
  some (.nx y1035)) 0 (NL X) ([]) = some (.br (TT N X)) := by
  have h64 := pairs_small h8
  have key : ∀ (X pre : List Nat) (i : Int), (pre ++ X).length ≤ 1000 → (∀ x ∈ X, x < N * N) → forR (S := (List (List Int))) (R := R) (fun _ x1019 s1016 =>
  (nz (N : Int)).bind fun u1028 =>
  (nz (N : Int)).bind fun u1029 =>
  (app s1016 ([[w64 (Int.tdiv x1019 (N : Int)), Int.tmod x1019 (N : Int)]])).bind fun y1035 =>
  some (.nx y1035)) i (NL X) (TT N pre) = some (.br (TT N (pre ++ X))) := by
    intro X
    induction X with
    | nil => intro pre i _ _; rw [List.append_nil]; rfl
    | cons x X ih =>
      intro pre i hl hx
      have hxl := hx x (by simp)
      have hTl := TT_len N pre
      rw [NL_cons, forR_step (s' := TT N (pre ++ [x])) (by
        rw [nz_nat hN, Option.bind_some, Option.bind_some, w64_div (by omega), show Int.tmod (x : Int) (N : Int) = ((x % N : Nat) : Int) from rfl, app_ok (by simp at hl ⊢; omega)]
        simp [TT, NLL, pt, NL]), ih (pre ++ [x]) (i + 1) (by simp at hl ⊢; omega) (fun y hy => hx y (by simp [hy]))]
      simp
  have := key X [] 0 (by simpa using hl) hX
  rw [List.nil_append] at this
  exact this

theorem pairs_same {N : Nat} {a : Int × List (Int × List Int)} (ha : AlgN a N) (h4 : N ≤ 4) :
    (∃ S, PR N a.2 S ∧ s_impl_pairRelations a.1 a.2 = some (S.map (relT N), true) ∧ s_spec_l18All (a.1, a.2) = some (TTs N S, true)) ∨ (s_impl_pairRelations a.1 a.2 = some ([], false) ∧ ∃ L, s_spec_l18All (a.1, a.2) = some (L, false)) := by
  have h8 := ha.n8
  have hN := ha.n1
  have h16 := small16 h4
  have eN := ha.eN
  obtain ⟨out, line, i, s1, s2, s3, s4, s5⟩ := specP_loop ha h4
  obtain ⟨c, c1, c2⟩ := implP_loop ha h4
  have hspec : s_spec_l18All (a.1, a.2) = some (TTs N out, decide (out.length ≤ 200)) := by
    unfold s_spec_l18All
    have e0 : s_spec_l8Close (a.1, a.2) 2 [] = some (TT N (clo N a.2 []), true) := l8Close_clo (X := []) ha h4 (List.forall_mem_nil _) (by simp)
    simp only [eN]
    rw [show ((N : Int), a.2) = (a.1, a.2) by rw [eN], e0, Option.bind_some, s1, Option.bind_some, after_br', TTs_len, show (200 : Int) = ((200 : Nat) : Int) from rfl, dec_le]
  have himpl : s_impl_pairRelations a.1 a.2 = after c (fun r_ => some r_) (fun s724 => (s_impl_sortRows__impl_compareTerms s724.1).bind fun r908 =>
  (forR (S := (List (Int × (List (List Int))))) (R := (List (Int × (List (List Int)))) × Bool) (fun _ x976 s973 =>
  (forR (S := (List (List Int))) (R := (List (Int × (List (List Int)))) × Bool) (fun _ x1019 s1016 =>
  (nz (N : Int)).bind fun u1028 =>
  (nz (N : Int)).bind fun u1029 =>
  (app s1016 ([[w64 (Int.tdiv x1019 (N : Int)), Int.tmod x1019 (N : Int)]])).bind fun y1035 =>
  some (.nx y1035)) 0 x976 ([])).bind fun o1020 => after o1020 (fun r_ => some (.rt r_)) (fun s1016 =>
  (app s973 ([(2, s1016)])).bind fun y1041 =>
  some (.nx y1041))) 0 r908 ([])).bind fun o977 => after o977 (fun r_ => some r_) (fun s973 =>
  some (s973, true))) := by
    unfold s_impl_pairRelations
    rw [eN]
    have eNN : w64 ((N : Int) * (N : Int)) = ((N * N : Nat) : Int) := w64_mul (by omega)
    obtain ⟨H, hc1, hc2⟩ := closePairs_clo (H0 := List.replicate (N * N) false) ha (by simp)
    have e0 : clo N a.2 (mk (List.replicate (N * N) false)) = clo N a.2 [] := clo_congr (fun x => by
      have : bt (List.replicate (N * N) false) x = false := by
        unfold bt; rw [List.getD_eq_getElem?_getD, List.getElem?_replicate]; split <;> rfl
      rw [mk_mem, this]; simp)
    rw [e0] at hc2
    have hl0 := clo_len (N := N) (ops := a.2) (X := [])
    rw [show mks (w64 ((N : Int) * (N : Int))) false = some (List.replicate (N * N) false) from mks_ok eNN (by omega), Option.bind_some, hc1, Option.bind_some, hc2, Option.bind_some]
    show ((s_impl_keyOf (NL (clo N a.2 []))).bind _) = _
    rw [keyOf_eq (by omega), Option.bind_some, c1]; rfl
  rcases c2 with ⟨M, j, seen, rfl, m1, m2, m3⟩ | ⟨rfl, M, m1, m2, m3⟩
  · have hMs : ∀ X ∈ M, X.length ≤ 4294967296 := fun X hX => by have := (reach_small ((m2 X).2 hX)).2.1; omega
    obtain ⟨S, t1, t2, t3⟩ := sortT_eq (L := M) hMs (by omega) m1
    have hSl : S.length = M.length := t2.length_eq
    have hSmem : ∀ x, Reach [clo N a.2 []] (nxP N a.2) x ↔ x ∈ S := fun x => (m2 x).trans t2.mem_iff.symm
    have hPR : PR N a.2 S := ⟨t3, by omega, hSmem⟩
    left
    have hol : out.length ≤ S.length := length_of_sub s2 fun x hx => (hSmem x).1 (s3 x hx)
    have hf : out.length ≤ 200 := by omega
    have he : S = out := by
      refine sorted_unique (le := fun a b => ltT a b = true) (fun x y h h' => ?_) (perm_of_mem (sorted_nodup ltT_irr t3) s2 fun x => ?_) t3 s4
      · have := ltT_tr h h'; rw [ltT_irr] at this; cases this
      · rw [← hSmem x, s5 hf]
    refine ⟨S, hPR, ?_, by rw [hspec, ← he, show decide (S.length ≤ 200) = true by simp; omega]⟩
    rw [himpl, after_br', t1, Option.bind_some]
    have key : ∀ (L pre : List (List Nat)) (i : Int), (pre ++ L).length ≤ 200 → (∀ X ∈ L, (∀ x ∈ X, x < N * N) ∧ X.length ≤ N * N) → forR (S := (List (Int × (List (List Int))))) (R := (List (Int × (List (List Int)))) × Bool) (fun _ x976 s973 =>
  (forR (S := (List (List Int))) (R := (List (Int × (List (List Int)))) × Bool) (fun _ x1019 s1016 =>
  (nz (N : Int)).bind fun u1028 =>
  (nz (N : Int)).bind fun u1029 =>
  (app s1016 ([[w64 (Int.tdiv x1019 (N : Int)), Int.tmod x1019 (N : Int)]])).bind fun y1035 =>
  some (.nx y1035)) 0 x976 ([])).bind fun o1020 => after o1020 (fun r_ => some (.rt r_)) (fun s1016 =>
  (app s973 ([(2, s1016)])).bind fun y1041 =>
  some (.nx y1041))) i (NLL L) (pre.map (relT N)) = some (.br ((pre ++ L).map (relT N))) := by
      intro L
      induction L with
      | nil => intro pre i _ _; rw [List.append_nil]; rfl
      | cons X L ih =>
        intro pre i hl hL
        have hX := hL X (by simp)
        rw [show NLL (X :: L) = NL X :: NLL L from rfl, forR_step (s' := (pre ++ [X]).map (relT N)) (by
          rw [toRel_loop hN h8 hX.1 (by omega), Option.bind_some, after_br', app_ok (by simp at hl ⊢; omega)]
          simp [relT]), ih (pre ++ [X]) (i + 1) (by simp at hl ⊢; omega) (fun Y hY => hL Y (by simp [hY]))]
        simp
    have := key S [] 0 (by simp; omega) (fun X hX => ⟨(hPR.small hX).1, (hPR.small hX).2.1⟩)
    rw [show ([] : List (List Nat)).map (relT N) = [] from rfl] at this
    rw [this]; rfl
  · right
    refine ⟨by rw [himpl]; rfl, TTs N out, ?_⟩
    rw [hspec]
    have : ¬ out.length ≤ 200 := fun hf => by
      have := length_of_sub m1 (M := out) fun x hx => (s5 hf x).1 (m2 x hx)
      omega
    rw [show decide (out.length ≤ 200) = false by simpa using this]

/-- Whatever comes in. -/
theorem pairs_cases (a : Int × List (Int × List Int)) (hb : BA a) :
    (∃ N S, AlgN a N ∧ N ≤ 4 ∧ PR N a.2 S ∧ s_impl_allPairRelations (a.1, a.2) = some (S.map (relT N), true) ∧ s_spec_l18Asked (a.1, a.2) = some (TTs N S, true)) ∨ (s_impl_allPairRelations (a.1, a.2) = some ([], false) ∧ ∃ L, s_spec_l18Asked (a.1, a.2) = some (L, false)) := by
  unfold s_impl_allPairRelations s_spec_l18Asked
  rcases alg_cases a hb with ⟨N, hN, h1, h2⟩ | ⟨_, h1, h2⟩
  · simp only [h1, h2, Option.bind_some, Bool.not_true, cond_false]
    have eN := hN.eN
    by_cases h4 : N ≤ 4
    · rw [show decide ((4 : Int) < a.1) = false by simp; omega]
      simp only [cond_false]
      rcases pairs_same hN h4 with ⟨S, p1, p2, p3⟩ | ⟨p1, L, p2⟩
      · exact .inl ⟨N, S, hN, h4, p1, by rw [p2]; rfl, by rw [p3]; rfl⟩
      · exact .inr ⟨by rw [p1]; rfl, L, by rw [p2]; rfl⟩
    · rw [show decide ((4 : Int) < a.1) = true by simp; omega]
      exact .inr ⟨by trivial, [], rfl⟩
  · simp only [h1, h2, Option.bind_some, Bool.not_false, cond_true]
    exact .inr ⟨by trivial, [], rfl⟩

set_option linter.unusedVariables false
theorem relN_pt {N : Nat} {X : List Nat} (hN : 1 ≤ N) (h : ∀ x ∈ X, x < N * N) (ha : X.Pairwise (· < ·)) : RelN N 2 (2, TT N X) (X.map (pt N)) := by
  refine ⟨rfl, by omega, by omega, ⟨pts_sorted hN ha, fun u hu => ?_⟩, fun t ht => ?_⟩
  · obtain ⟨x, _, rfl⟩ := List.mem_map.1 hu; rfl
  · obtain ⟨x, hx, rfl⟩ := List.mem_map.1 ht
    exact (pt_tup (h x hx)).2

set_option linter.unusedVariables false
def keepsB (N K : Nat) (T X : List Nat) : Bool := (List.range (X.length ^ K)).all fun i => decide (cdA N T X (dig X.length K i) ∈ X)

theorem keepsB_iff {N K : Nat} {T X : List Nat} : keepsB N K T X = true ↔ ∀ i, i < X.length ^ K → cdA N T X (dig X.length K i) ∈ X := by
  unfold keepsB; simp

theorem pts_mem {N : Nat} {X t : List Nat} (h : TupN N 2 t) : t ∈ X.map (pt N) ↔ cd N t ∈ X := by
  rw [List.mem_map]
  constructor
  · rintro ⟨c, hc, rfl⟩; rw [cd_pt]; exact hc
  · intro hc; exact ⟨_, hc, pt_cd h⟩

theorem tupleSet_eq {N : Nat} {X : List Nat} (h8 : N ≤ 8) (hX : ∀ x ∈ X, x < N * N) : ∃ m, s_impl_tupleSet (2, TT N X) = some m ∧ ∀ t : List Nat, (∀ x ∈ t, x < 65536) → (mget m (kkey t)).getD false = decide (t ∈ X.map (pt N)) := by
  have h64 := pairs_small h8
  unfold s_impl_tupleSet
  have key : ∀ (X pre : List Nat) (m : List (ByteArray × Bool)) (i : Int), (∀ x ∈ X, x < N * N) → SeenOk m (pre.map (pt N)) → ∃ m', forR (S := (List (ByteArray × Bool))) (R := (List (ByteArray × Bool))) (fun _ x21 s18 =>
  (s_impl_keyOf x21).bind fun r30 =>
  some (.nx (mput s18 r30 true))) i (TT N X) m = some (.br m') ∧ SeenOk m' ((pre ++ X).map (pt N)) := by
    intro X
    induction X with
    | nil => intro pre m i _ h; exact ⟨m, rfl, by rw [List.append_nil]; exact h⟩
    | cons x X ih =>
      intro pre m i hx h
      have hs : ∀ y ∈ pt N x, y < 65536 := fun y hy => by have := (pt_tup (hx x (by simp))).2 y hy; omega
      obtain ⟨m', e, h'⟩ := ih (pre ++ [x]) (mput m (kkey (pt N x)) true) (i + 1) (fun y hy => hx y (by simp [hy])) (by rw [List.map_append]; exact h.add hs)
      refine ⟨m', ?_, by simpa using h'⟩
      rw [show TT N (x :: X) = NL (pt N x) :: TT N X from rfl, forR_step (s' := mput m (kkey (pt N x)) true) (by rw [keyOf_eq (by rw [pt_len]; omega)]; rfl), e]
  obtain ⟨m, e, h⟩ := key X [] [] 0 hX (fun T hT => by simp [mget])
  refine ⟨m, ?_, fun t ht => by simpa using h t ht⟩
  show ((forR _ 0 (TT N X) []).bind _) = _
  rw [e]; rfl

theorem digits_loop {R : Type} {i K L : Nat} {Y : List Int} (hK : K ≤ 100) (hL : 1 ≤ L ∨ K = 0) (hi : i ≤ 1000000000) (hY : Y.length = K) (hL2 : L ≤ 1000000) : ∃ z, iter (S := Int × Int × (List Int)) (R := R) (fun s276 =>
  (bif (decide (0 ≤ s276.2.1)) then (nz (L : Int)).bind fun u285 =>
  (idx s276.2.2 s276.2.1).bind fun x286 =>
  (nz (L : Int)).bind fun u289 =>
  some (.nx (w64 (Int.tdiv s276.1 (L : Int)), w64 (s276.2.1 - 1), List.set s276.2.2 (Int.toNat s276.2.1) (Int.tmod s276.1 (L : Int)))) else some (.br (s276.1, s276.2.1, s276.2.2)))) FU ((i : Int), w64 ((K : Int) - 1), Y) = some (.br (z, -1, NL (dig L K i))) := by
  refine ⟨((i / L ^ K : Nat) : Int), ?_⟩
  have hdl : ∀ t, i / L ^ t ≤ i := fun t => Nat.div_le_self _ _
  rw [iter_br (R := R) (fun t => (((i / L ^ t : Nat) : Int), (K : Int) - 1 - t, Y.take (K - t) ++ NL (dig L t i))) (t := (((i / L ^ K : Nat) : Int), -1, NL (dig L K i))) K (by omega)]
  · rw [w64_id (by omega) (by omega)]
    simp [dig, ← hY]
  · intro j hj
    have hL : 1 ≤ L := by omega
    have e3 : (K : Int) - 1 - j = ((K - (j + 1) : Nat) : Int) := by omega
    have e2 : Y.take (K - j) = Y.take (K - (j + 1)) ++ [Y[K - (j + 1)]'(by omega)] := by
      rw [show K - j = (K - (j + 1)) + 1 by omega, List.take_add_one, List.getElem?_eq_getElem (by omega)]; rfl
    have hd := hdl j
    rw [show decide ((0 : Int) ≤ (K : Int) - 1 - j) = true by simp; omega]
    simp only [cond_true, nz_nat hL, Option.bind_some]
    rw [e2, e3, idx_nat, Int.toNat_natCast, w64_div (by omega), show Int.tmod ((i / L ^ j : Nat) : Int) (L : Int) = ((i / L ^ j % L : Nat) : Int) from rfl]
    have hlen : (Y.take (K - (j + 1))).length = K - (j + 1) := by simp; omega
    rw [List.append_assoc, List.getElem?_append_right (by omega), hlen, Nat.sub_self, List.set_append_right _ _ (by omega), hlen, Nat.sub_self]
    show some (Ctl.nx _) = some (Ctl.nx _)
    rw [w64_id (by omega) (by omega), Nat.div_div_eq_div_mul, ← Nat.pow_succ]
    congr 2
    simp [dig]
    omega
  · rw [show decide ((0 : Int) ≤ (K : Int) - 1 - K) = false by simp; omega, cond_false, Nat.sub_self, show (K : Int) - 1 - K = -1 by omega]
    rfl

/-- The tuple that the operation makes. -/
theorem tuple_loop {R : Type} {N K : Nat} {T X ds : List Nat} {f : Int × List Int} {Y : List Int} (hN : 1 ≤ N) (h8 : N ≤ 8) (ho : OpN N f K T) (hds : ds.length = K) (hX : ∀ x ∈ X, x < N * N) (hx : ∀ x ∈ ds, x < X.length) (hY : Y.length = 2) : forC (S := (List Int)) (R := R) (fun k343 s341 =>
  (forR (S := Int) (R := R) (fun _ x359 s356 =>
  (idx (TT N X) x359).bind fun x363 =>
  (idx x363 k343).bind fun x367 =>
  some (.nx (w64 ((w64 (s356 * (N : Int))) + x367)))) 0 (NL ds) 0).bind fun o360 => after o360 (fun r_ => some (.rt r_)) (fun s356 =>
  (idx f.2 s356).bind fun x369 =>
  (idx s341 k343).bind fun x371 =>
  some (.nx (List.set s341 (Int.toNat k343) x369)))) 0 (Y.length : Int) Y = some (.br (NL (apT N T (ds.map fun x => pt N (ga X x)) 2))) := by
  have h64 := pairs_small h8
  have hK := ho.k3
  have inner : ∀ k : Nat, k < 2 → forR (S := Int) (R := R) (fun _ x359 s356 =>
  (idx (TT N X) x359).bind fun x363 =>
  (idx x363 (k : Int)).bind fun x367 =>
  some (.nx (w64 ((w64 (s356 * (N : Int))) + x367)))) 0 (NL ds) 0 = some (.br (((ix N 0 ((ds.map fun x => pt N (ga X x)).map fun t => ga t k) : Nat) : Int))) := by
    intro k hk
    have key : ∀ (ds pre : List Nat) (i : Int), (pre ++ ds).length ≤ 3 → (∀ x ∈ pre ++ ds, x < X.length) → forR (S := Int) (R := R) (fun _ x359 s356 =>
  (idx (TT N X) x359).bind fun x363 =>
  (idx x363 (k : Int)).bind fun x367 =>
  some (.nx (w64 ((w64 (s356 * (N : Int))) + x367)))) i (NL ds) ((ix N 0 ((pre.map fun x => pt N (ga X x)).map fun t => ga t k) : Nat) : Int) = some (.br (((ix N 0 (((pre ++ ds).map fun x => pt N (ga X x)).map fun t => ga t k) : Nat) : Int))) := by
      intro ds
      induction ds with
      | nil => intro pre i _ _; rw [List.append_nil]; rfl
      | cons d ds ih =>
        intro pre i hl hx
        have hd : d < X.length := hx d (by simp)
        have hpl : pre.length ≤ 2 := by simp at hl; omega
        have hp2 : N ^ pre.length ≤ 64 := Nat.le_trans (Nat.pow_le_pow_left h8 _) (Nat.le_trans (Nat.pow_le_pow_right (by omega) hpl) (by decide))
        have b1 : ix N 0 ((pre.map fun x => pt N (ga X x)).map fun t => ga t k) < N ^ pre.length := ix0_lt (fun y hy => by
          obtain ⟨t, ht, rfl⟩ := List.mem_map.1 hy
          obtain ⟨x, h, rfl⟩ := List.mem_map.1 ht
          exact (pt_tup (hX _ (ga_mem (hx x (by simp [h]))))).2 _ (ga_mem (by rw [pt_len]; exact hk))) (by simp)
        have b3 : ix N 0 ((pre.map fun x => pt N (ga X x)).map fun t => ga t k) * N ≤ 64 * 8 := Nat.mul_le_mul (by omega) h8
        have b4 : ga (pt N (ga X d)) k < N := (pt_tup (hX _ (ga_mem hd))).2 _ (ga_mem (by rw [pt_len]; exact hk))
        have e1 : ix N 0 ((pre.map fun x => pt N (ga X x)).map fun t => ga t k) * N + ga (pt N (ga X d)) k = ix N 0 (((pre ++ [d]).map fun x => pt N (ga X x)).map fun t => ga t k) := by rw [List.map_append, List.map_append, ix_append]; rfl
        have := ih (pre ++ [d]) (i + 1) (by simp at hl ⊢; omega) (fun x h => hx x (by simpa using h))
        rw [NL_cons, forR_step (s' := ((ix N 0 (((pre ++ [d]).map fun x => pt N (ga X x)).map fun t => ga t k) : Nat) : Int)) (by
          rw [TT_at hd, Option.bind_some, idx_NL (by rw [pt_len]; exact hk), Option.bind_some, w64_mul (by omega), w64_add (by omega), e1])]
        rw [show pre ++ d :: ds = (pre ++ [d]) ++ ds by simp]
        exact this
    exact key ds [] 0 (by simp; omega) (by simpa using hx)
  have hib : ∀ k, k < 2 → ix N 0 ((ds.map fun x => pt N (ga X x)).map fun t => ga t k) < T.length := fun k hk => by
    rw [ho.len]
    exact ix0_lt (fun y hy => by
      obtain ⟨t, ht, rfl⟩ := List.mem_map.1 hy
      obtain ⟨x, h, rfl⟩ := List.mem_map.1 ht
      exact (pt_tup (hX _ (ga_mem (hx x h)))).2 _ (ga_mem (by rw [pt_len]; exact hk))) (by simp [hds])
  obtain ⟨u, v, rfl⟩ : ∃ u v, Y = [u, v] := by
    match Y, hY with
    | [u, v], _ => exact ⟨u, v, rfl⟩
  have eT : f.2 = NL T := by rw [ho.eq]
  rw [forC0_fn (R := R) (F := fun j => if j = 0 then [u, v] else if j = 1 then [((ga T (ix N 0 ((ds.map fun x => pt N (ga X x)).map fun t => ga t 0)) : Nat) : Int), v] else NL (apT N T (ds.map fun x => pt N (ga X x)) 2)) (n := 2) (s := [u, v]) (hi := (([u, v].length : Nat) : Int)) rfl (by omega) rfl (fun j hj => by
    rw [inner j hj, Option.bind_some, after_br', eT, idx_NL (hib j hj), Option.bind_some]
    rcases (by omega : j = 0 ∨ j = 1) with rfl | rfl
    · rfl
    · rfl)]
  rfl

/-- Whether the program finds a break. -/
theorem firstBreak_eq {N K : Nat} {T X : List Nat} {f : Int × List Int} (hN : 1 ≤ N) (h8 : N ≤ 8) (ho : OpN N f K T) (hX : ∀ x ∈ X, x < N * N) (hl : X.length ≤ 64) : ∃ p q, s_impl_firstBreak (N : Int) (f.1, f.2) (2, TT N X) = some (p, q, !keepsB N K T X) := by
  have h64 := pairs_small h8
  have hK := ho.k3
  have hP : X.length ^ K ≤ 64 ^ 3 := Nat.le_trans (Nat.pow_le_pow_left hl K) (Nat.pow_le_pow_right (by omega) hK)
  have hf1 : f.1 = (K : Int) := by rw [ho.eq]
  obtain ⟨m, em, hm⟩ := tupleSet_eq h8 hX
  unfold s_impl_firstBreak
  have em : s_impl_tupleSet ((2, TT N X) : Int × List (List Int)) = some m := em
  simp only [em, Option.bind_some]
  rw [show mks (f.1, f.2).1 (0 : Int) = some (List.replicate K 0) from mks_ok hf1 (by omega), Option.bind_some, show mks (2 : Int) (0 : Int) = some (List.replicate 2 0) from mks_ok rfl (by omega), Option.bind_some]
  obtain ⟨c, hc, hq, _⟩ := iter_inv (S := Int × (List Int) × (List Int)) (R := (List Int) × (List Int) × Bool) (step := fun s250 =>
  (s_impl_power ((TT N X).length : Int) f.1).bind fun r261 =>
  (bif (decide (s250.1 < r261)) then (iter (S := Int × Int × (List Int)) (R := (List Int) × (List Int) × Bool) (fun s276 =>
  (bif (decide (0 ≤ s276.2.1)) then (nz ((TT N X).length : Int)).bind fun u285 =>
  (idx s276.2.2 s276.2.1).bind fun x286 =>
  (nz ((TT N X).length : Int)).bind fun u289 =>
  some (.nx (w64 (Int.tdiv s276.1 ((TT N X).length : Int)), w64 (s276.2.1 - 1), List.set s276.2.2 (Int.toNat s276.2.1) (Int.tmod s276.1 ((TT N X).length : Int)))) else some (.br (s276.1, s276.2.1, s276.2.2)))) FU (s250.1, w64 (f.1 - 1), s250.2.1)).bind fun o280 => after o280 (fun r_ => some (.rt r_)) (fun s276 =>
  (forC (S := (List Int)) (R := (List Int) × (List Int) × Bool) (fun k343 s341 =>
  (forR (S := Int) (R := (List Int) × (List Int) × Bool) (fun _ x359 s356 =>
  (idx (TT N X) x359).bind fun x363 =>
  (idx x363 k343).bind fun x367 =>
  some (.nx (w64 ((w64 (s356 * (N : Int))) + x367)))) 0 s276.2.2 0).bind fun o360 => after o360 (fun r_ => some (.rt r_)) (fun s356 =>
  (idx f.2 s356).bind fun x369 =>
  (idx s341 k343).bind fun x371 =>
  some (.nx (List.set s341 (Int.toNat k343) x369)))) 0 (s250.2.2.length : Int) s250.2.2).bind fun o345 => after o345 (fun r_ => some (.rt r_)) (fun s341 =>
  (s_impl_keyOf s341).bind fun r375 =>
  (bif (!((mget m r375).getD false)) then some (.rt (s276.2.2, s341, true)) else some (.nx (w64 (s250.1 + 1), s276.2.2, s341))))) else some (.br (s250.1, s250.2.1, s250.2.2))))
    (fun s => ∃ i : Nat, ∃ Y Z, s = ((i : Int), Y, Z) ∧ i ≤ X.length ^ K ∧ Y.length = K ∧ Z.length = 2 ∧ ∀ j, j < i → cdA N T X (dig X.length K j) ∈ X)
    (fun s => 1000000 - s.1.toNat)
    (fun c => (∃ s, c = .br s ∧ keepsB N K T X = true) ∨ (∃ p q, c = .rt (p, q, true) ∧ keepsB N K T X = false))
    FU (0, List.replicate K 0, List.replicate 2 0) ⟨0, _, _, rfl, Nat.zero_le _, by simp, by simp, fun j h => by omega⟩ (by simp [FU]) (by
      rintro s ⟨i, Y, Z, rfl, hi, hY, hZ, hp⟩
      simp only [TT_len, hf1]
      rw [powerA hK (by omega), Option.bind_some, dec_lt]
      by_cases hil : i < X.length ^ K
      · rw [show decide (i < X.length ^ K) = true by simpa using hil, cond_true]
        have hL : 1 ≤ X.length ∨ K = 0 := by
          rcases Nat.eq_zero_or_pos K with e | e
          · exact .inr e
          · rcases Nat.eq_zero_or_pos X.length with e2 | e2
            · rw [e2, Nat.zero_pow e] at hil; omega
            · exact .inl e2
        have hdl : ∀ x ∈ dig X.length K i, x < X.length := fun x hx => by
          rcases hL with h | h
          · exact dig_lt h K i x hx
          · subst h; simp [dig] at hx
        obtain ⟨z, ez⟩ := digits_loop (R := (List Int) × (List Int) × Bool) (i := i) (L := X.length) (Y := Y) (show K ≤ 100 by omega) hL (by omega) hY (by omega)
        have etl := tuple_loop (R := (List Int) × (List Int) × Bool) (ds := dig X.length K i) hN h8 ho (by simp) hX hdl hZ
        have htup := cdA_ok ho (dig_len X.length K i) hX hdl
        rw [ez, Option.bind_some, after_br', etl, Option.bind_some, after_br', keyOf_eq (by rw [apT_len]; omega), Option.bind_some, hm _ (fun x hx => by have := htup.2 x hx; omega), w64_add1 (by omega)]
        by_cases hin : cdA N T X (dig X.length K i) ∈ X
        · left
          rw [show decide (apT N T ((dig X.length K i).map fun x => pt N (ga X x)) 2 ∈ X.map (pt N)) = true from decide_eq_true ((pts_mem htup).2 hin), Bool.not_true, cond_false]
          refine ⟨_, rfl, ⟨i + 1, _, _, rfl, by omega, by simp, by simp [apT_len], fun j hj => ?_⟩, by simp; omega⟩
          by_cases e : j = i
          · rw [e]; exact hin
          · exact hp j (by omega)
        · right
          rw [show decide (apT N T ((dig X.length K i).map fun x => pt N (ga X x)) 2 ∈ X.map (pt N)) = false from decide_eq_false (fun h => hin ((pts_mem htup).1 h)), Bool.not_false, cond_true]
          refine ⟨_, rfl, by intro s; simp, .inr ⟨_, _, rfl, ?_⟩⟩
          rw [← Bool.not_eq_true, keepsB_iff]
          exact fun h => hin (h i hil)
      · right
        rw [show decide (i < X.length ^ K) = false by simpa using hil, cond_false]
        refine ⟨_, rfl, by intro s; simp, .inl ⟨_, rfl, keepsB_iff.2 fun j hj => hp j (by omega)⟩⟩)
  rcases hq with ⟨s, rfl, hk⟩ | ⟨p, q, rfl, hk⟩
  · exact ⟨[], [], by rw [hc, hk]; rfl⟩
  · exact ⟨p, q, by rw [hc, hk]; rfl⟩

set_option linter.unusedVariables false
theorem l8Next_nil (B : Int) : s_spec_l8Next [] B = some ([], false) := by
  unfold s_spec_l8Next
  rw [l1Own_eq (by simp), Option.bind_some]
  rw [show FU = FU - 1 + 1 from rfl, iter_out (o := some (.br (-1, []))) rfl (by intro s; simp)]
  rfl

theorem l8Next_any {B K m : Nat} (hB : 1 ≤ B ∨ K = 0) (hBl : B ≤ 4294967296) (hK : K ≤ 100) (hm : m < B ^ K) : s_spec_l8Next (NL (dig B K m)) (B : Int) = some (NL (dig B K (if m + 1 < B ^ K then m + 1 else 0)), decide (m + 1 < B ^ K)) := by
  rcases hB with h | h
  · exact l8Next_eq h hBl hK hm
  · subst h
    rw [show dig B 0 m = [] from rfl, NL_nil, l8Next_nil]
    simp at hm
    simp [hm, dig]

theorem l13Result_eq {N K : Nat} {T X ds : List Nat} {f : Int × List Int} (hN : 1 ≤ N) (h8 : N ≤ 8) (ho : OpN N f K T) (hds : ds.length = K) (hX : ∀ x ∈ X, x < N * N) (hx : ∀ x ∈ ds, x < X.length) : s_spec_l13Result (N : Int) (f.1, f.2) (NLL (ds.map fun x => pt N (ga X x))) 2 = some (NL (apT N T (ds.map fun x => pt N (ga X x)) 2)) := by
  unfold s_spec_l13Result
  have ha : AlgN ((N : Int), [f]) N := ⟨rfl, hN, h8, by simp, fun g hg => by simp at hg; subst hg; exact ⟨K, T, ho⟩⟩
  have := l8Apply_eq (j := 0) (k := 2) (ts := ds.map fun x => pt N (ga X x)) ha (by simp) (by simpa using ho) (by simp [hds]) (fun t ht => by obtain ⟨x, _, rfl⟩ := List.mem_map.1 ht; rfl) (fun t ht => by
    obtain ⟨x, h, rfl⟩ := List.mem_map.1 ht
    exact (pt_tup (hX _ (ga_mem (hx x h)))).2) (by omega)
  have this : s_spec_l8Apply ((N : Int), [(f.1, f.2)]) 0 (NLL (ds.map fun x => pt N (ga X x))) 2 = _ := this
  rw [this]; rfl

theorem break_loop {N K : Nat} {T X : List Nat} {step : List Int × Bool → Option (Ctl (List Int × Bool) (List Int × List Int × Bool))}
    (h1 : ∀ x, step (x, false) = some (.br (x, false)))
    (h2 : ∀ m, m < X.length ^ K → (cdA N T X (dig X.length K m) ∈ X → step (NL (dig X.length K m), true) = some (.nx (NL (dig X.length K (if m + 1 < X.length ^ K then m + 1 else 0)), decide (m + 1 < X.length ^ K)))) ∧ (cdA N T X (dig X.length K m) ∉ X → ∃ p q, step (NL (dig X.length K m), true) = some (.rt (p, q, true)))) :
    ∀ (n m fu : Nat), m + n = X.length ^ K → n < fu → (∀ j, j < m → cdA N T X (dig X.length K j) ∈ X) →
    ∃ c, iter step fu (NL (dig X.length K (if m < X.length ^ K then m else 0)), decide (m < X.length ^ K)) = some c ∧ ((∃ s, c = .br s ∧ keepsB N K T X = true) ∨ (∃ p q, c = .rt (p, q, true) ∧ keepsB N K T X = false))
  | 0, m, fu, e, hf, hp => by
    obtain ⟨fu, rfl⟩ : ∃ k, fu = k + 1 := ⟨fu - 1, by omega⟩
    rw [show decide (m < X.length ^ K) = false by simp; omega, iter_out (h1 _) (by intro s; simp)]
    exact ⟨_, rfl, .inl ⟨_, rfl, keepsB_iff.2 fun j hj => hp j (by omega)⟩⟩
  | n + 1, m, fu, e, hf, hp => by
    obtain ⟨fu, rfl⟩ : ∃ k, fu = k + 1 := ⟨fu - 1, by omega⟩
    have hm : m < X.length ^ K := by omega
    rw [if_pos hm, show decide (m < X.length ^ K) = true by simpa using hm]
    by_cases hin : cdA N T X (dig X.length K m) ∈ X
    · rw [iter_nx ((h2 m hm).1 hin)]
      exact break_loop h1 h2 n (m + 1) fu (by omega) (by omega) (fun j hj => by
        by_cases e : j = m
        · rw [e]; exact hin
        · exact hp j (by omega))
    · obtain ⟨p, q, h⟩ := (h2 m hm).2 hin
      rw [iter_out h (by intro s; simp)]
      refine ⟨_, rfl, .inr ⟨p, q, rfl, ?_⟩⟩
      rw [← Bool.not_eq_true, keepsB_iff]
      exact fun h => hin (h m hm)

theorem l13Break_eq {N K : Nat} {T X : List Nat} {f : Int × List Int} (hN : 1 ≤ N) (h8 : N ≤ 8) (ho : OpN N f K T) (hX : ∀ x ∈ X, x < N * N) (ha : X.Pairwise (· < ·)) (hl : X.length ≤ 64) : ∃ p q, s_spec_l13Break (N : Int) (f.1, f.2) (2, TT N X) = some (p, q, !keepsB N K T X) := by
  have h64 := pairs_small h8
  have hK := ho.k3
  have hP : X.length ^ K ≤ 64 ^ 3 := Nat.le_trans (Nat.pow_le_pow_left hl K) (Nat.pow_le_pow_right (by omega) hK)
  have hf1 : f.1 = (K : Int) := by rw [ho.eq]
  have hR := (relN_pt hN hX ha).rel
  unfold s_spec_l13Break
  have e0 : (bif (f.1 == 0) then (mks f.1 (0 : Int)).bind fun y29 =>
  some (y29, true) else (mks f.1 (0 : Int)).bind fun y32 =>
  some (y32, (decide (0 < ((TT N X).length : Int))))) = some (NL (dig X.length K (if 0 < X.length ^ K then 0 else 0)), decide (0 < X.length ^ K)) := by
    have em : mks f.1 (0 : Int) = some (NL (dig X.length K (if 0 < X.length ^ K then 0 else 0))) := by
      rw [mks_ok hf1 (by omega), show (if 0 < X.length ^ K then 0 else 0) = 0 by simp, dig_zero]; simp [NL]
    rw [em, hf1]
    by_cases hK0 : K = 0
    · subst hK0; simp
    · rw [show (((K : Nat) : Int) == 0) = false by simp; omega, cond_false, Option.bind_some, TT_len]
      congr 2
      rw [decide_eq_decide]
      constructor
      · intro h; exact Nat.pow_pos (by omega)
      · intro h
        rcases Nat.eq_zero_or_pos X.length with e | e
        · rw [e, Nat.zero_pow (by omega)] at h; omega
        · omega
  simp only [e0, Option.bind_some]
  have := break_loop (N := N) (K := K) (T := T) (X := X) (step := fun s87 =>
  (bif s87.2 then (s_spec_l8Choose (TT N X) s87.1).bind fun r111 =>
  (s_spec_l13Result (N : Int) (f.1, f.2) r111 2).bind fun r114 =>
  (s_spec_l13Has (2, TT N X) r114).bind fun r117 =>
  (bif (!r117) then some (.rt (s87.1, r114, true)) else (s_spec_l8Next s87.1 ((TT N X).length : Int)).bind fun r121 =>
  some (.nx (r121.1, r121.2))) else some (.br (s87.1, s87.2)))) (fun x => rfl) (fun m hm => by
    have hL : 1 ≤ X.length ∨ K = 0 := by
      rcases Nat.eq_zero_or_pos K with e | e
      · exact .inr e
      · rcases Nat.eq_zero_or_pos X.length with e2 | e2
        · rw [e2, Nat.zero_pow e] at hm; omega
        · exact .inl e2
    have hdl : ∀ x ∈ dig X.length K m, x < X.length := fun x hx => by
      rcases hL with h | h
      · exact dig_lt h K m x hx
      · subst h; simp [dig] at hx
    have htup := cdA_ok ho (dig_len X.length K m) hX hdl
    have ech : s_spec_l8Choose (TT N X) (NL (dig X.length K m)) = some (NLL ((dig X.length K m).map fun x => pt N (ga X x))) := by
      unfold TT
      rw [l8Choose_eq (by simp; omega) (by simpa using hdl)]
      congr 2
      apply List.map_congr_left
      intro x hx
      have := hdl x hx
      rw [gl_get (by simpa using this), List.getElem_map, ga_get this]
    have eh : s_spec_l13Has (2, TT N X) (NL (apT N T ((dig X.length K m).map fun x => pt N (ga X x)) 2)) = some ((X.map (pt N)).contains (apT N T ((dig X.length K m).map fun x => pt N (ga X x)) 2)) := l13Has_eq (k := 2) hR (by simp; omega) (by omega)
    simp only [cond_true, ech, Option.bind_some, l13Result_eq hN h8 ho (dig_len X.length K m) hX hdl, eh, TT_len, l8Next_any hL (by omega) (by omega) hm]
    constructor
    · intro hin
      rw [show (X.map (pt N)).contains (apT N T ((dig X.length K m).map fun x => pt N (ga X x)) 2) = true by rw [List.contains_iff_mem]; exact (pts_mem htup).2 hin]; rfl
    · intro hin
      rw [show (X.map (pt N)).contains (apT N T ((dig X.length K m).map fun x => pt N (ga X x)) 2) = false by rw [← Bool.not_eq_true, List.contains_iff_mem]; exact fun h => hin ((pts_mem htup).1 h)]
      exact ⟨_, _, rfl⟩) (X.length ^ K) 0 FU (by omega) (by unfold FU; omega) (fun j h => by omega)
  obtain ⟨c, hc, hq⟩ := this
  rcases hq with ⟨s, rfl, hk⟩ | ⟨p, q, rfl, hk⟩
  · exact ⟨[], [], by rw [hc, hk]; rfl⟩
  · exact ⟨p, q, by rw [hc, hk]; rfl⟩

set_option linter.unusedVariables false
theorem l13Keeps_eq {N K : Nat} {T X : List Nat} {f : Int × List Int} (hN : 1 ≤ N) (h8 : N ≤ 8) (ho : OpN N f K T) (hX : ∀ x ∈ X, x < N * N) (ha : X.Pairwise (· < ·)) (hl : X.length ≤ 64) : s_spec_l13Keeps (N : Int) (f.1, f.2) (2, TT N X) = some (keepsB N K T X) := by
  unfold s_spec_l13Keeps
  obtain ⟨p, q, e⟩ := l13Break_eq hN h8 ho hX ha hl
  have e : s_spec_l13Break (N : Int) ((f.1, f.2).1, (f.1, f.2).2) ((2, TT N X).1, (2, TT N X).2) = some (p, q, !keepsB N K T X) := e
  rw [e, Option.bind_some, Bool.not_not]

/-- The first of the relations that the operation does not keep. -/
theorem l18Broken_eq {N K : Nat} {T : List Nat} {S : List (List Nat)} {f : Int × List Int} (hN : 1 ≤ N) (h8 : N ≤ 8) (ho : OpN N f K T) (hS : ∀ X ∈ S, (∀ x ∈ X, x < N * N) ∧ X.Pairwise (· < ·) ∧ X.length ≤ 64) (hl : S.length ≤ 1000) : s_spec_l18Broken (N : Int) (TTs N S) (f.1, f.2) = some (match (List.range S.length).find? (fun j => !keepsB N K T (gl S j)) with | none => -1 | some j => (j : Int)) := by
  unfold s_spec_l18Broken
  rw [forC0_find (R := Int) (p := fun j => if keepsB N K T (gl S j) = true then none else some (j : Int)) (n := S.length) (by rw [TTs_len]) (by omega) (fun j hj => by
    have hX := hS _ (gl_mem hj)
    have ek : s_spec_l13Keeps (N : Int) ((f.1, f.2).1, (f.1, f.2).2) (2, TT N (gl S j)) = some (keepsB N K T (gl S j)) := l13Keeps_eq hN h8 ho hX.1 hX.2.1 hX.2.2
    rw [TTs_at hj, Option.bind_some, (gl_get hj).symm, ek, Option.bind_some]
    cases keepsB N K T (gl S j) <;> rfl)]
  have : ∀ (l : List Nat), l.findSome? (fun j => if keepsB N K T (gl S j) = true then none else some (j : Int)) = (l.find? (fun j => !keepsB N K T (gl S j))).map fun j => (j : Int) := by
    intro l
    induction l with
    | nil => rfl
    | cons j l ih =>
      rw [List.findSome?_cons, List.find?_cons]
      cases keepsB N K T (gl S j) with
      | true => simpa using ih
      | false => rfl
  rw [this]
  cases (List.range S.length).find? (fun j => !keepsB N K T (gl S j)) <;> rfl

theorem op_cases {a : Int × List (Int × List Int)} {N : Nat} (hN : AlgN a N) (f : Int × List Int) (hf : BO f) : (∃ K T, OpN N f K T ∧ s_spec_l2Op a.1 (f.1, f.2) = some true ∧ s_impl_isOp (f.1, f.2) a.1 = some true) ∨ (s_spec_l2Op a.1 (f.1, f.2) = some false ∧ s_impl_isOp (f.1, f.2) a.1 = some false) := by
  have hl : f.2.length ≤ 4294967296 := by have : f.2.length ≤ 1048576 := hf; omega
  have e1 : s_spec_l2Op a.1 (f.1, f.2) = some (opOk N f) := l2Op_eq hN.eN hN.n1 hN.n8 f hl
  have e2 : s_impl_isOp (f.1, f.2) a.1 = some (opOk N f) := isOp_eq hN.eN hN.n1 hN.n8 f
  rw [e1, e2]
  cases h : opOk N f with
  | true => obtain ⟨K, T, ho⟩ := opOk_elim h; exact .inl ⟨K, T, ho, rfl, rfl⟩
  | false => exact .inr ⟨rfl, rfl⟩

theorem PR.rows {N : Nat} {ops : List (Int × List Int)} {S : List (List Nat)} (h : PR N ops S) (h4 : N ≤ 4) : ∀ X ∈ S, (∀ x ∈ X, x < N * N) ∧ X.Pairwise (· < ·) ∧ X.length ≤ 64 := fun X hX => by
  have h16 := small16 h4
  have := h.small hX; exact ⟨this.1, this.2.2, by omega⟩

set_option linter.unusedVariables false
theorem broken_loop {N K : Nat} {T : List Nat} {f : Int × List Int} (hN : 1 ≤ N) (h8 : N ≤ 8) (ho : OpN N f K T) : ∀ (S pre : List (List Nat)), (∀ X ∈ S, (∀ x ∈ X, x < N * N) ∧ X.Pairwise (· < ·) ∧ X.length ≤ 64) → forR (S := Unit) (R := (Int × (List (List Int))) × Bool) (fun k30 x31 s28 =>
  (s_impl_firstBreak (N : Int) (f.1, f.2) (x31.1, x31.2)).bind fun r40 =>
  (bif r40.2.2 then (idx (List.map some ((pre ++ S).map (relT N))) (k30 : Int)).bind fun o46 =>
  (o46).bind fun x47 =>
  some (.rt ((x31.1, x47.2), true)) else some (.nx ()))) (pre.length : Int) (S.map (relT N)) () = some (match S.find? (fun X => !keepsB N K T X) with | none => .br () | some X => .rt (relT N X, true))
  | [], pre, _ => rfl
  | X :: S, pre, hS => by
    have hX := hS X (by simp)
    obtain ⟨p, q, e⟩ := firstBreak_eq hN h8 ho hX.1 hX.2.2
    have e : s_impl_firstBreak (N : Int) (f.1, f.2) ((relT N X).1, (relT N X).2) = some (p, q, !keepsB N K T X) := e
    rw [List.map_cons, List.find?_cons]
    cases hk : keepsB N K T X with
    | true =>
      rw [hk] at e
      rw [forR_step (s' := ()) (by rw [e]; rfl)]
      have := broken_loop hN h8 ho S (pre ++ [X]) (fun Y hY => hS Y (by simp [hY]))
      rw [show pre ++ [X] ++ S = pre ++ X :: S by simp, show ((pre ++ [X]).length : Int) = (pre.length : Int) + 1 by simp] at this
      exact this
    | false =>
      rw [hk] at e
      unfold forR
      have ei : idx (List.map some ((pre ++ X :: S).map (relT N))) (pre.length : Int) = some (some (relT N X)) := by
        rw [idx_nat, List.map_map, List.getElem?_map, List.getElem?_append_right (Nat.le_refl _), Nat.sub_self]; rfl
      rw [e, Option.bind_some]
      simp only [Bool.not_false, cond_true, ei, Option.bind_some]

theorem FirstPairBroken_same (a : Int × List (Int × List Int)) (f : Int × List Int) (hb : BA a) (hf : BO f) : ∃ z, s_spec_FirstPairBroken (a.1, a.2) (f.1, f.2) = some z ∧ s_impl_FirstPairBroken (a.1, a.2) (f.1, f.2) = some z ∧ BR z.1 := by
  unfold s_spec_FirstPairBroken s_impl_FirstPairBroken
  have hnil : BR ((0, []) : Int × List (List Int)) := ⟨by simp, List.forall_mem_nil _⟩
  rcases pairs_cases a hb with ⟨N, S, hN, h4, hS, h1, h2⟩ | ⟨h1, L, h2⟩
  · rw [h1, h2]
    simp only [Option.bind_some, Bool.not_true, cond_false]
    rcases op_cases hN f hf with ⟨K, T, ho, o1, o2⟩ | ⟨o1, o2⟩
    · have hl := hS.l200
      have hbr := relT_BR h4 hS
      have hfind : S.find? (fun X => !keepsB N K T X) = ((List.range S.length).find? (fun j => !keepsB N K T (gl S j))).map (gl S) := by
        conv => lhs; rw [← map_gl S, List.find?_map]
        rfl
      have hloop := broken_loop hN.n1 hN.n8 ho S [] (hS.rows h4)
      rw [List.nil_append, show (([] : List (List Nat)).length : Int) = 0 from rfl, ← hN.eN] at hloop
      simp only [o1, o2, Option.bind_some, Bool.not_true, cond_false]
      rw [hloop, hfind]
      have hbk := l18Broken_eq (f := f) hN.n1 hN.n8 ho (hS.rows h4) (by omega)
      rw [← hN.eN] at hbk
      rw [hbk]
      cases hfd : (List.range S.length).find? (fun j => !keepsB N K T (gl S j)) with
      | none => exact ⟨((0, []), false), rfl, rfl, hnil⟩
      | some j =>
        have hj : j < S.length := by simpa using List.mem_of_find?_eq_some hfd
        refine ⟨(relT N (gl S j), true), ?_, rfl, hbr.2 _ (List.mem_map.2 ⟨_, gl_mem hj, rfl⟩)⟩
        simp only [Option.bind_some]
        rw [show decide (((j : Nat) : Int) < 0) = false by simp, cond_false, TTs_at hj, Option.bind_some, gl_get hj]; rfl
    · refine ⟨((0, []), false), ?_, ?_, hnil⟩
      · simp only [o1, Option.bind_some, Bool.not_false, cond_true]
      · simp only [o2, Option.bind_some, Bool.not_false, cond_true]
  · exact ⟨((0, []), false), by rw [h2]; rfl, by rw [h1]; rfl, hnil⟩

theorem s_laws_FnExactFirstPairBroken_ok (a : Int × List (Int × List Int)) (f : Int × List Int) (ha : OkP OkI (OkL (OkP OkI (OkL OkI))) a) (hf : OkP OkI (OkL OkI) f) : s_laws_FnExactFirstPairBroken a f = some true := by
  unfold s_laws_FnExactFirstPairBroken
  obtain ⟨u, hu, hb⟩ := OkAlg.sz ha 1048576 (by omega) (by omega)
  have hu : s_laws_szAlgebra (a.1, a.2) 1048576 = some u := hu
  rw [hu, Option.bind_some]
  by_cases hneg : u < 0
  · rw [show decide (u < 0) = true by simpa using hneg]; rfl
  rcases hb with hb | ⟨hb, hu0, hu1⟩
  · exact absurd hb hneg
  rw [show decide (u < 0) = false by simpa using hneg, cond_false]
  obtain ⟨v, hv, hb2⟩ := szOp_ok f hf.2.1 u hu0 (by omega)
  have hv : s_laws_szOp (f.1, f.2) u = some v := hv
  rw [hv, Option.bind_some]
  by_cases hneg2 : v < 0
  · rw [show decide (v < 0) = true by simpa using hneg2]; rfl
  rcases hb2 with hb2 | ⟨hb2, _, _⟩
  · exact absurd hb2 hneg2
  rw [show decide (v < 0) = false by simpa using hneg2, cond_false]
  have e1 : s_laws_toAlgebra (a.1, a.2) = some a := toAlgebra_ok a hb
  have e2 : s_laws_eqAlgebra (a.1, a.2) (a.1, a.2) = some true := eqAlgebra_refl a hb
  have e3 : s_laws_toOp (f.1, f.2) = some f := toOp_ok f hb2
  have e4 : s_laws_eqOp (f.1, f.2) (f.1, f.2) = some true := eqOp_refl f hb2
  obtain ⟨⟨g, b⟩, z1, z2, hg⟩ := FirstPairBroken_same a f hb hb2
  obtain ⟨k1, t1, m1, m2, m3⟩ := markAlgebra_ok a hb 1 (by omega) (by omega)
  have m1 : s_laws_markAlgebra (a.1, a.2) 1 = some (k1, t1) := m1
  have hf1 : f.2.length ≤ 1048576 := hb2
  have m5 : s_laws_markOp (f.1, f.2) k1 = some (k1 + (f.2.length : Int), marks f.2.length k1) := markOp_eq f k1 (by omega) m2 (by omega)
  have hg : BR g := hg
  have e5 : s_laws_eqRelation (g.1, g.2) (g.1, g.2) = some true := eqRelation_refl g hg
  obtain ⟨k2, t2, m6, m7, m8, _⟩ := markRelation_ok g hg 1 (by omega) (by omega)
  have m6 : s_laws_markRelation (g.1, g.2) 1 = some (k2, t2) := m6
  simp only [e1, e2, e3, e4, e5, Option.bind_some, z1, z2, m1, m5, m6, m7, neg_dec' (show 0 ≤ k1 + (f.2.length : Int) by omega), neg_dec' m8, beq_self_eq_true, bne_self_eq_false, Bool.not_true, cond_false]

end Go.Proofs
