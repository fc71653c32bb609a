/- walk of power.Segment -/
import Derived.Test.YtgfkagaacdblbaaGreatPa
set_option linter.unusedVariables false
set_option linter.unusedSimpArgs false
set_option maxRecDepth 10000
namespace Go.Proofs.YtgfkagaacdblbaaGreat.W
open Go.Vc Go.RowKit Tryz
abbrev wrow (n : Int) : List Value := [.int .u64 (n / 18446744073709551616), .int .u64 (n % 18446744073709551616)]
def segR (s : Int) : List (List Value) := (List.range (Z0M s).2.1.toNat).map fun i : Nat => wrow (entS ((Z0M s).1 + (i : Int))).1
theorem Z4E (s : Int) (i : Nat) (h : i < (Z0M s).2.1.toNat) : (segR s)[i]? = some (wrow (entS ((Z0M s).1 + i)).1) := by
 simp [segR, h]
theorem segR_len (s : Int) : (segR s).length = (Z0M s).2.1.toNat := by simp [segR]
theorem segR_rows (s : Int) : Z1g 2 (segR s) := fun r hr => by
 obtain ⟨i, _, rfl⟩ := List.mem_map.1 hr
 exact ⟨rfl, by simp [Value.oneCell']⟩
theorem segR_eq {rs : List (List Value)} {s : Int} (hl : rs.length = (Z0M s).2.1.toNat) (h : ∀ j : Nat, j < rs.length → rs[j]? = some (wrow (entS ((Z0M s).1 + j)).1)) : rs = segR s := by
 apply List.ext_getElem?
 intro j
 by_cases hj : j < rs.length
 ·rw [h j hj, Z4E s j ZO]
 rw [List.getElem?_eq_none ZO, List.getElem?_eq_none (by rw [segR_len]; omega)]
theorem entS_neg {q : Int} (n : Nat) (h : -342 ≤ q ∧ q < 0) (hn : (n : Int) = -q) : (entS q).1 = blM (5 ^ n) := by
 unfold entS
 rw [if_neg (by omega), if_pos h.2, show (-q).toNat = n from by omega]
theorem entS_pos {q : Int} (n : Nat) (h : 0 ≤ q ∧ q ≤ 308) (hn : (n : Int) = q) : (entS q).1 = abM (5 ^ n) := by
 unfold entS
 rw [if_neg (by omega), if_neg (by omega), show q.toNat = n from by omega]
theorem wrow_set {rs : List (List Value)} {i : Nat} {x : List Value} (hi : i < rs.length) (j : Nat) : (rs.set i x)[j]? = if i = j then some x else rs[j]? := by
 rw [List.getElem?_set]
 split
 ·rename_i h; subst h; simp [hi]
 rfl
theorem segP (s : Int) (hs : -9223372036854775808 ≤ s ∧ s ≤ 9223372036854775807) (w : World) :
  Z0f P 66 [.int .i64 s] w fun r w' => ∃ v, r = .tuple #[v, .int .i64 (Z0M s).2.2] ∧ Grow w w' [As.rk 85 2 v (segR s)] := by
 refine Z0o func66 rfl ntmps66 rfl ?_
 have H0 := St.start w
 refine Z03 (Z00 (Zg (Zg (Z01 (Z02 ?_)))))
 refine Zk [0] ?_
 refine Z03 (Z00 (Zm ?_))
 refine Zp func77 (firstP s hs _) ?_
 refine Zm ?_
 refine Zx (Zx (Zx (Zg (Zg (Zg (Z01 (Z02 ?_)))))))
 refine Zk [4, 5, 6] ?_
 refine Z03 (Z03 (Z00 (Zm ?_)))
 refine Zo ?_
 refine Z01 (Z02 ?_)
 refine Zk [4, 5, 6, 19] ?_
 (first | refine Z0c rfl ?_ ?_ | refine Z08 rfl ?_ ?_) <;> intro hc0
 ·have hbad : s < 0 ∨ 41 ≤ s := by
   rcases Int.lt_or_le s 0 with h | h
   ·exact .inl h
   rcases Int.lt_or_le s 41 with h2 | h2
   ·exact absurd (show (Z0M s).2.2 = 0 by unfold Z0M; rw [if_neg ZO]) hc0
   exact .inr h2
  refine Z03 (Z00 (Zm (Zg (Zg (Z01 (Z02 ?_))))))
  refine Zk [2, 3] ?_
  refine Z0i ?_
  refine Z07 ?_
  refine Z0P results66 rfl rfl ?_
  refine ⟨_, rfl, ?_⟩
  have e : Z0M s = (0, 0, 61) := if_pos hbad
  have es : segR s = [] := by unfold segR; rw [e]; rfl
  rw [es, e]
  exact ⟨_, rfl, (H0.nilk 85 2).grows⟩
 have hgood : 0 ≤ s ∧ s ≤ 40 := by
  rcases Int.lt_or_le s 0 with h | h
  ·exact absurd (show (Z0M s).2.2 = 61 by unfold Z0M; rw [if_pos ZO]) ZO
  rcases Int.lt_or_le s 41 with h2 | h2
  ·omega
  exact absurd (show (Z0M s).2.2 = 61 by unfold Z0M; rw [if_pos ZO]) ZO
 have hfe : Z0M s = (-342 + 16 * s, if s = 40 then 11 else 16, 0) := by unfold Z0M; rw [if_neg ZO]
 obtain ⟨q, hqd⟩ : ∃ q : Int, (Z0M s).1 = q := ⟨_, rfl⟩
 obtain ⟨nn, hnd⟩ : ∃ nn : Nat, (Z0M s).2.1 = (nn : Int) := ⟨(Z0M s).2.1.toNat, by rw [hfe]; dsimp only; split <;> omega⟩
 have hq1 : q = -342 + 16 * s := by rw [← hqd, hfe]
 have hn1 : (nn : Int) = if s = 40 then 11 else 16 := by rw [← hnd, hfe]
 have hnb : 11 ≤ nn ∧ nn ≤ 16 ∧ q + nn ≤ 309 := by split at hn1 <;> omega
 rw [hqd, hnd]
 refine Z0a (Z02 ?_)
 refine Zk [4, 5] ?_
 refine Z03 (Z00 (Zm ?_))
 refine k_make (m := nn) (c := nn) H0 rfl rfl underlying47 ti85 rfl (by decide) (by simp [Value.oneCell']) rfl rfl ZO ZO ZO ZO (by simp only [maxLen]; omega) ZO (fun v4_1 w1 H1 => ?_)
 refine Zg (Z01 (Z02 ?_))
 refine Zk [4, 5, 7] ?_
 refine Z03 (Z00 (Zm ?_))
 refine l_neg rfl rfl rfl (Z0l ZO) ?_
 refine l_max rfl rfl rfl rfl ?_
 refine Zm ?_
 refine l_min rfl rfl rfl rfl ?_
 refine Zg (Z01 (Z02 ?_))
 refine Zk [4, 5, 7, 8] ?_
 refine Z03 (Z00 (Zm (Zm ?_)))
 refine Z0y rfl rfl rfl rfl (Z0l ZO) ?_
 refine Z0W rfl rfl rfl rfl (Z0l ZO) ?_
 refine l_neg rfl rfl rfl (Z0l ZO) ?_
 refine l_max rfl rfl rfl rfl ?_
 obtain ⟨e0, he0⟩ : ∃ e0 : Nat, max (0 - (q + min (max (0 - q) 0) (nn : Int) - 1)) 0 = (e0 : Int) := ⟨(max (0 - (q + min (max (0 - q) 0) (nn : Int) - 1)) 0).toNat, ZO⟩
 refine Z0j (s := 33) (v' := .int .i64 (e0 : Int)) rfl (by rw [he0]) ?_
 refine Zc func78 (powersP e0 ZO w1) ?_
 rintro _ w2 ⟨b, vl, ls, rfl, hcn, hG⟩
 have H2 := hG _ _ _ _ H1
 simp only [Zca, Zna] at H2
 refine Zg (Z01 (Z02 ?_))
 refine Zk [4, 5, 7, 8, 9] ?_
 refine Z03 (Z03 (Z00 ?_))
 obtain ⟨dn, hdn⟩ : ∃ dn : Nat, min (max (0 - q) 0) (nn : Int) = (dn : Int) := ⟨(min (max (0 - q) 0) (nn : Int)).toNat, ZO⟩
 rw [hdn] at he0 ⊢
 refine Zm ?_
 refine Z0W rfl rfl rfl rfl (Z0l ZO) ?_
 refine Zg (Z01 (Z02 ?_))
 refine Zk [4, 5, 7, 8, 9, 10] ?_
 refine Z0d ?_
 refine Z0z (ι := Nat × List (List Value) × Value × List Int × Nat) (fun (z0 : Nat × List (List Value) × Value × List Int × Nat) => match z0 with | ⟨k, rs, vl, ls, e⟩ => k) (fun (z0 : Nat × List (List Value) × Value × List Int × Nat) (w' : World) => match z0 with | ⟨k, rs, vl, ls, e⟩ => St w w.heap.size Z0J ([As.blk b 127 [vl], As.ri 83 .u64 vl ls, As.rk 85 2 v4_1 rs]) w' ∧ k ≤ dn ∧ rs.length = nn ∧ Z1g 2 rs ∧ Ma.Cn 18446744073709551616 ls (5 ^ e) ∧ e ≤ 343 ∧ (0 < k → (e : Int) = -(q + k - 1)) ∧ ∀ j : Nat, k ≤ j → j < dn → rs[j]? = some (wrow (entS (q + j)).1)) (fun (z0 : Nat × List (List Value) × Value × List Int × Nat) => match z0 with | ⟨k, rs, vl, ls, e⟩ => [(10, .int .i64 ((k : Int) - 1))]) [4, 5, 7, 8, 9] (dn, List.replicate nn [.int .u64 0, .int .u64 0], vl, ls, e0) ?_ (.cons rfl (.cons rfl (.cons rfl (.cons rfl (.cons rfl .nil))))) ?_ ?_
 ·exact ⟨H2, Nat.le_refl _, by simp, Z1g.rep rfl (by simp [Value.oneCell']) _, hcn, ZO, ZO, fun j h1 h2 => by omega⟩
 ·exact (.cons rfl ZN .nil)
 rintro ⟨k, rs, vl, ls, e⟩ w3 ⟨H3, hk, hrl, hRs, hcn, he, hek, hrow⟩
 show RunC P _ _ _ (_ :: _) _
 refine Z03 (Z03 (Z00 (Zm ?_)))
 refine Zh ?_
 refine Z01 (Z02 ?_)
 refine Zk [4, 5, 7, 8, 9, 10, 38] ?_
 (first | refine Z0c rfl ?_ ?_ | refine Z08 rfl ?_ ?_) <;> intro hc1
 ·refine Z0a (Z02 ?_)
  refine Zk [4, 5, 7, 8, 9, 10] ?_
  refine Z03 (Z0d (Z00 (Zm (Zm (Zm ?_)))))
  refine Z3g rfl rfl rfl func89 rfl rfl .nil (nextP b vl ls e ZO hcn w3 (St.rows (τ := [As.blk b 127 [vl], As.ri 83 .u64 vl ls]) (σ := _) H3)) ?_
  rintro _ w4 ⟨rfl, vm, lm, hm, hX⟩
  have H4 := hX _ _ _ _ H3
  simp only [Zca, Zna] at H4
  refine Zc func79 (belowP vl ls (5 ^ e) hcn (Z2A e) (by have := Z1T e ZO; omega) ((bl_fit ⟨e, ZO⟩).resolve_left (by show ¬ e = 0; omega)) w4 (H4.io mem2)) ?_
  rintro _ w5 ⟨rfl, hG⟩
  have H5 := hG _ _ _ _ H4
  simp only [Zca, Zna] at H5
  refine Zm ?_
  refine Zx (Zx ?_)
  refine Z3J (j := k - 1) rfl rfl underlying47 tz85 (by decide) rfl rfl (by first | exact H5.ibl mem0 | exact H5.io mem1 | exact H5.io mem2 | exact H5.ik ZA mem3 | assumption) ZP ZI (fun ad10_8 ac10_8 hA10_8 => ?_)
  have hne : Z1g 2 rs := hRs
  refine k_store (j := k - 1) H5 (.tail (.tail (.tail .head))) ZA (by decide) hA10_8 rfl tz85 rfl rfl rfl ZI ZC (fun w6 H6 => ?_)
  refine Z01 ?_
  refine Z0F ?_
  refine Z02 ?_
  refine Zk [4, 5, 7, 8, 9, 10] ?_
  refine Z00 (Zm ?_)
  refine Z0W rfl rfl rfl rfl (Z0l ZO) ?_
  refine Zg (Z01 ?_)
  have H7 := St.del (.tail (.tail .head)) H6
  refine Z0p (i := (k, rs, vl, ls, e)) (k - 1, rs.set (k - 1) (wrow (blM (5 ^ e))), vm, lm, e + 1) ?_ ?_ (.cons rfl (.cons rfl (.cons rfl (.cons rfl (.cons rfl .nil))))) ?_
  ·first | omega | (simp; omega)
  ·refine ⟨H7, ZO, by simpa using hrl, hRs.set rfl (by simp [Value.oneCell']) _, hm, ZO, ZO, fun j h1 h2 => ?_⟩
   rw [wrow_set ZO]
   split
   ·rename_i h3
    rw [entS_neg e ZO ZO]
   exact hrow j ZO h2
  exact (.cons rfl ZN .nil)
 refine Z0H ?_
 refine Z06 ?_
 refine Z06 ?_
 refine Z0h ?_
 refine Z02 ?_
 refine Zk [4, 5, 7, 8] ?_
 refine Z03 (Z00 (Zm ?_))
 have H9 := St.del .head (St.del .head H3)
 refine l_max rfl rfl rfl rfl ?_
 obtain ⟨e1, he1⟩ : ∃ e1 : Nat, max q 0 = (e1 : Int) := ⟨(max q 0).toNat, ZO⟩
 refine Z0j (s := 51) (v' := .int .i64 (e1 : Int)) rfl (by rw [he1]) ?_
 refine Zc func78 (powersP e1 ZO w3) ?_
 rintro _ w10 ⟨b, vl, ls, rfl, hcn, hG⟩
 have H10 := hG _ _ _ _ H9
 simp only [Zca, Zna] at H10
 refine Zg (Z01 (Z02 ?_))
 refine Zk [5, 7, 8, 9] ?_
 refine Z03 (Z03 (Z00 (Zm (Zg (Z01 (Z02 ?_))))))
 refine Zk [5, 7, 9, 11] ?_
 refine Z0d ?_
 refine Z0z (ι := Nat × List (List Value) × Value × List Int × Nat) (fun (z0 : Nat × List (List Value) × Value × List Int × Nat) => match z0 with | ⟨k, rs, vl, ls, e⟩ => nn - k) (fun (z0 : Nat × List (List Value) × Value × List Int × Nat) (w' : World) => match z0 with | ⟨k, rs, vl, ls, e⟩ => St w w.heap.size Z0J ([As.blk b 127 [vl], As.ri 83 .u64 vl ls, As.rk 85 2 v4_1 rs]) w' ∧ dn ≤ k ∧ k ≤ nn ∧ rs.length = nn ∧ Z1g 2 rs ∧ Ma.Cn 18446744073709551616 ls (5 ^ e) ∧ e ≤ 330 ∧ (k < nn → (e : Int) = q + k) ∧ ∀ j : Nat, j < k → rs[j]? = some (wrow (entS (q + j)).1)) (fun (z0 : Nat × List (List Value) × Value × List Int × Nat) => match z0 with | ⟨k, rs, vl, ls, e⟩ => [(11, .int .i64 (k : Int))]) [5, 7, 9] (dn, rs, vl, ls, e1) ?_ (.cons rfl (.cons rfl (.cons rfl .nil))) ?_ ?_
 ·exact ⟨H10, Nat.le_refl _, ZO, hrl, hRs, hcn, ZO, ZO, fun j h1 => hrow j ZO h1⟩
 ·exact (.cons rfl ZN .nil)
 rintro ⟨k, rs, vl, ls, e⟩ w11 ⟨H11, hdk, hk, hrl, hRs, hcn, he, hek, hrow⟩
 show RunC P _ _ _ (_ :: _) _
 refine Z03 (Z03 (Z00 (Zm (Zm ?_))))
 refine Zl ?_
 refine Z01 (Z02 ?_)
 refine Zk [5, 7, 9, 11, 56] ?_
 (first | refine Z0c rfl ?_ ?_ | refine Z08 rfl ?_ ?_) <;> intro hc2
 ·refine Z0a (Z02 ?_)
  refine Zk [5, 7, 9, 11] ?_
  refine Z03 (Z0d (Z00 (Zm (Zm (Zm ?_)))))
  refine Z3g rfl rfl rfl func89 rfl rfl .nil (nextP b vl ls e ZO hcn w11 (St.rows (τ := [As.blk b 127 [vl], As.ri 83 .u64 vl ls]) (σ := _) H11)) ?_
  rintro _ w12 ⟨rfl, vm, lm, hm, hX⟩
  have H12 := hX _ _ _ _ H11
  simp only [Zca, Zna] at H12
  refine Zc func80 (aboveP vl ls (5 ^ e) hcn (Z2A e) (by have := Z1T e ZO; omega) w12 (H12.io mem2)) ?_
  rintro _ w13 ⟨rfl, hG⟩
  have H13 := hG _ _ _ _ H12
  simp only [Zca, Zna] at H13
  refine Zm ?_
  refine Zx (Zx ?_)
  refine Z3J (j := k) rfl rfl underlying47 tz85 (by decide) rfl rfl (by first | exact H13.ibl mem0 | exact H13.io mem1 | exact H13.io mem2 | exact H13.ik ZA mem3 | assumption) ZP ZI (fun ad15_8 ac15_8 hA15_8 => ?_)
  have hne : Z1g 2 rs := hRs
  refine k_store (j := k) H13 (.tail (.tail (.tail .head))) ZA (by decide) hA15_8 rfl tz85 rfl rfl rfl ZI ZC (fun w14 H14 => ?_)
  refine Z01 ?_
  refine Z0F ?_
  refine Z02 ?_
  refine Zk [5, 7, 9, 11] ?_
  refine Z00 (Zm ?_)
  refine Z0y rfl rfl rfl rfl (Z0l ZO) ?_
  refine Zg (Z01 ?_)
  have H15 := St.del (.tail (.tail .head)) H14
  refine Z0p (i := (k, rs, vl, ls, e)) (k + 1, rs.set k (wrow (abM (5 ^ e))), vm, lm, e + 1) ?_ ?_ (.cons rfl (.cons rfl (.cons rfl .nil))) ?_
  ·first | omega | (simp; omega)
  ·refine ⟨H15, ZO, ZO, by simpa using hrl, hRs.set rfl (by simp [Value.oneCell']) _, hm, ZO, ZO, fun j h1 => ?_⟩
   rw [wrow_set ZO]
   split
   ·rename_i h3
    rw [entS_pos e ZO ZO]
   exact hrow j ZO
  exact (.cons rfl ZN .nil)
 refine Z0H ?_
 refine Z06 ?_
 refine Z06 ?_
 refine Z0h ?_
 refine Z02 ?_
 refine Zk [7] ?_
 refine Z03 (Z00 (Zm (Zg (Zg (Z01 (Z02 ?_))))))
 refine Zk [2, 3] ?_
 refine Z0i ?_
 refine Z0P results66 rfl rfl ?_
 refine ⟨_, rfl, ?_⟩
 have H18 := St.del (.tail .head) (St.del (.tail (.tail .head)) (St.front2 H11))
 obtain rfl : k = nn := by omega
 have es : rs = segR s := segR_eq (by rw [hnd]; omega) (fun j hj => by rw [hqd]; exact hrow j ZO)
 rw [← es, show (Z0M s).2.2 = 0 from by rw [hfe]]
 exact ⟨_, rfl, H18.grows⟩
end Go.Proofs.YtgfkagaacdblbaaGreat.W
