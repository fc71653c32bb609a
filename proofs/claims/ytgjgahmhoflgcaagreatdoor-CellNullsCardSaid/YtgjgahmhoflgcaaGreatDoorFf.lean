/- walk of nat.Parse -/
import Derived.Test.YtgjgahmhoflgcaaGreatDoorFe
import Derived.Test.YtgjgahmhoflgcaaGreatDoorRa
set_option linter.unusedVariables false
set_option linter.unusedSimpArgs false
set_option maxRecDepth 10000
namespace Go.Proofs.YtgjgahmhoflgcaaGreatDoor.W
open Go.Vc Go.RowKit Tryz
theorem Z6x (a : List UInt8) (x : UInt8) : pv (a ++ [x]) = 10 * pv a + ((x.toNat : Int) - 48) := by rw [pv, List.foldl_append]; rfl
theorem Z5A (a : List UInt8) : ∀ (n : Nat) (b : List UInt8), b.length = n → pv (a ++ b) = pv a * 10 ^ n + pv b
 | 0, b, h => by
  obtain rfl := List.eq_nil_of_length_eq_zero h
  simp [pv]
 | n + 1, b, h => by
  have hne : b ≠ [] := by intro e; subst e; simp at h
  have e := List.dropLast_concat_getLast hne
  have ih := Z5A a n b.dropLast (by simp [h])
  rw [← e, ← List.append_assoc, Z6x, Z6x, ih, Int.pow_succ, ← Int.mul_assoc]
  omega
theorem Z50 : ∀ (n : Nat) (b : List UInt8), b.length = n → (∀ x ∈ b, isD x) → 0 ≤ pv b ∧ pv b < 10 ^ n
 | 0, b, h, _ => by
  obtain rfl := List.eq_nil_of_length_eq_zero h
  simp [pv]
 | n + 1, b, h, hd => by
  have hne : b ≠ [] := by intro e; subst e; simp at h
  have e := List.dropLast_concat_getLast hne
  have ih := Z50 n b.dropLast (by simp [h]) (fun x hx => hd x ((List.dropLast_sublist b).subset hx))
  have hl := (hd _ (List.getLast_mem hne)).le
  rw [← e, Z6x, Int.pow_succ]
  omega
theorem Z5w {t : List UInt8} (h : ∀ j, j < t.length → isD (t.getD j 0)) : ∀ x ∈ t, isD x := fun x hx => by
 obtain ⟨j, hj, rfl⟩ := List.getElem_of_mem hx
 have := h j hj
 simpa [List.getD, hj] using this
theorem pv_lead {t : List UInt8} (h : ∀ x ∈ t, isD x) (hn : 0 < t.length) (h0 : ((t.getD 0 0).toNat : Int) ≠ 48) : 10 ^ (t.length - 1) ≤ pv t := by
 match t, hn with
 | x :: l, _ =>
  have e := Z5A [x] l.length l rfl
  have hx := (h x (.head _)).le
  have hl := (Z50 l.length l rfl (fun y hy => h y (.tail _ hy))).1
  have hp := Ma.pow_pos (show (0 : Int) < 10 by omega) l.length
  have h1 : pv [x] = (x.toNat : Int) - 48 := by simp [pv]
  have h0' : (x.toNat : Int) ≠ 48 := h0
  have h2 : 1 * (10 : Int) ^ l.length ≤ pv [x] * 10 ^ l.length := Int.mul_le_mul_of_nonneg_right ZO (Int.le_of_lt hp)
  show 10 ^ l.length ≤ pv ([x] ++ l)
  omega
set_option exponentiation.threshold 10000 in
theorem big10 : (2 : Int) ^ 8192 ≤ 10 ^ 2467 := by
 have : (2 : Nat) ^ 8192 ≤ 10 ^ 2467 := by decide +kernel
 exact_mod_cast this
theorem Z5q (t : List UInt8) (z : Nat) (hz : z ≤ t.length) (n : Nat) (hn : z + n ≤ t.length) : pv (t.take (z + n)) = pv (t.take z) * 10 ^ n + pv ((t.drop z).take n) := by
 rw [List.take_add]
 exact Z5A _ n _ (by rw [List.length_take, List.length_drop]; omega)
theorem Z4Y {t : List UInt8} (z k : Nat) : (t.drop z).getD k 0 = t.getD (z + k) 0 := by simp [List.getD, List.getElem?_drop]
theorem ten19 : (10 : Int) ^ 19 = 10000000000000000000 := by decide
theorem parseN (t : List UInt8) (hL : t.length ≤ 140737488355328) (w : World) :
  Z0f P 271 [str t] w fun r w' => NatR w w' r (Z6n t).1 (Z6n t).2 := by
 refine Z0o func271 rfl ntmps271 rfl ?_
 have H0 := St.start w
 refine Z03 (Z00 (Zg (Zg (Z01 (Z02 ?_)))))
 refine Zk [0] ?_
 refine Z03 (Z03 (Z00 (Zm ?_)))
 refine Z5f rfl rfl underlying9 rfl ?_
 refine Zm (Z01 (Z02 ?_))
 refine Zk [0, 14, 15] ?_
 refine Z0d ?_
 refine Z0z (ι := Nat) (fun (k : Nat) => t.length - k) (fun (k : Nat) (w' : World) => St w w.heap.size Z0J ([]) w' ∧ k ≤ t.length ∧ ∀ j, j < k → isD (t.getD j 0)) (fun (k : Nat) => [(15, .int .i64 (k : Int))]) [0, 14] (0) ?_ (.cons rfl (.cons rfl .nil)) ?_ ?_
 ·exact ⟨H0, ZO, fun j hj => by omega⟩
 ·exact (.cons rfl ZN .nil)
 rintro k w1 ⟨H1, hk, hd⟩
 show RunC P _ _ _ (_ :: _) _
 refine Z03 (Z00 ?_)
 refine Zl ?_
 refine Z01 (Z02 (Z03 ?_))
 (first | refine Z0c rfl ?_ ?_ | refine Z08 rfl ?_ ?_) <;> intro hc0
 ·refine Z0a (Z02 ?_)
  refine Zk [0, 14, 15] ?_
  refine Z03 (Z0d (Z03 (Z00 (Zm (Zg (Z01 (Z02 ?_)))))))
  refine Zk [0, 4, 14, 15] ?_
  refine Z03 (Z00 (Zm (Zm ?_)))
  refine Z6m rfl rfl underlying9 rfl rfl rfl ZI (fun hb4_2 => ?_)
  refine Zl ?_
  refine Zm ?_
  apply l_or 4 [0, 14, 15] rfl rfl (.cons rfl (.cons rfl (.cons rfl (.cons rfl .nil)))) rfl rfl (fun _ => rfl) rfl rfl rfl
  ·intro hg4_5
   refine Zm (Zm ?_)
   refine Z6m rfl rfl underlying9 rfl rfl rfl ZI (fun hb4_7 => ?_)
   refine Zw ?_
   refine Z01 ?_
   exact Z0O rfl (.cons rfl (ZF hg4_5) (.cons rfl rfl (.cons rfl rfl (.cons rfl rfl .nil))))
  refine Z01 (Z02 ?_)
  refine Zk [0, 14, 15, 27] ?_
  (first | refine Z0c rfl ?_ ?_ | refine Z08 rfl ?_ ?_) <;> intro hc1
  ·refine Z03 (Z00 (Zg (Zg (Z01 (Z02 ?_)))))
   refine Zk [2, 3] ?_
   refine Z0i ?_
   refine Z0k ?_
   refine Z07 ?_
   refine Z07 ?_
   refine Z0k ?_
   refine Z07 ?_
   refine Z0P results271 rfl rfl ?_
   refine ⟨_, rfl, ?_⟩
   rw [parsed_bad (.inr ⟨k, ZO, fun h => by have := h.le; omega⟩)]
   exact ⟨_, _, rfl, Ma.Cn.nil, (H1.nil 24).grows⟩
  skip
  refine Z0a ?_
  refine Z0F ?_
  refine Z02 ?_
  refine Zk [0, 14, 15] ?_
  refine Z00 ?_
  refine Z0y rfl rfl rfl rfl (Z0l ZO) ?_
  refine Zm (Z01 ?_)
  refine Z0p (i := (k)) (k + 1) ?_ ?_ (.cons rfl (.cons rfl .nil)) ?_
  ·first | omega | (simp; omega)
  ·refine ⟨H1, ZO, fun j hj => ?_⟩
   rcases Nat.lt_or_ge j k with h | h
   ·exact hd j h
   obtain rfl : j = k := by omega
   exact ⟨ZO, ZO⟩
  exact (.cons rfl ZN .nil)
 refine Z0H ?_
 refine Z06 ?_
 refine Z06 ?_
 refine Z0h ?_
 refine Z02 ?_
 refine Zk [0] ?_
 refine Z03 (Z03 (Z00 ?_))
 have hall : ∀ j, j < t.length → isD (t.getD j 0) := fun j hj => hd j ZO
 refine Zm ?_
 refine Z5W rfl rfl rfl rfl ?_
 refine Z01 (Z02 ?_)
 refine Zk [0, 30] ?_
 (first | refine Z0c rfl ?_ ?_ | refine Z08 rfl ?_ ?_) <;> intro hc2
 ·refine Z03 (Z00 (Zg (Zg (Z01 (Z02 ?_)))))
  refine Zk [2, 3] ?_
  refine Z0i ?_
  refine Z07 ?_
  refine Z0P results271 rfl rfl ?_
  refine ⟨_, rfl, ?_⟩
  rw [parsed_bad (.inl hc2)]
  exact ⟨_, _, rfl, Ma.Cn.nil, (H1.nil 24).grows⟩
 refine Z0a (Z02 ?_)
 refine Zk [0] ?_
 refine Z03 (Z0d ?_)
 refine Z0z (ι := Nat) (fun (z : Nat) => t.length - z) (fun (z : Nat) (w' : World) => St w w.heap.size Z0J ([]) w' ∧ z ≤ t.length ∧ pv (t.take z) = 0) (fun (z : Nat) => [(0, str (t.drop z))]) [] (0) ?_ .nil ?_ ?_
 ·exact ⟨H1, ZO, by simp [pv]⟩
 ·exact (.cons rfl (by rfl) .nil)
 rintro z w2 ⟨H2, hz, hpz⟩
 show RunC P _ _ _ (_ :: _) _
 have hdl : (t.drop z).length = t.length - z := List.length_drop
 refine Z03 (Z03 (Z00 (Zm ?_)))
 refine Z5f rfl rfl underlying9 rfl ?_
 refine Zw ?_
 refine Zm ?_
 apply Z47 3 [0] rfl rfl (.cons rfl (.cons rfl .nil)) rfl rfl (fun _ => rfl) rfl rfl rfl
 ·intro hg9_4
  refine Zm ?_
  refine Z6m (j := 0) rfl rfl underlying9 rfl rfl rfl ZI (fun hb9_5 => ?_)
  refine Ze ?_
  refine Z01 ?_
  exact Z0O rfl (.cons rfl (ZT hg9_4) (.cons rfl rfl .nil))
 refine Z01 (Z02 ?_)
 refine Zk [0, 38] ?_
 (first | refine Z0c rfl ?_ ?_ | refine Z08 rfl ?_ ?_) <;> intro hc3
 ·refine Z0a (Z02 ?_)
  refine Zk [0] ?_
  refine Z0d (Z00 (Zm ?_))
  refine Z76 (l := 1) (h := (t.drop z).length) rfl rfl underlying9 rfl rfl rfl ZD ZD ZO ZI ?_
  refine Zg (Z01 ?_)
  refine Z0F ?_
  refine Z0p (i := (z)) (z + 1) ?_ ?_ .nil ?_
  ·first | omega | (simp; omega)
  ·have h48 := hc3.2
   rw [Z4Y] at h48
   simp only [Nat.add_zero] at h48
   refine ⟨H2, ZO, ?_⟩
   rw [pv_succ t ZO, hpz]
   omega
  exact (.cons rfl (by exact congrArg str (by rw [List.take_length, List.drop_drop])) .nil)
 refine Z0H ?_
 refine Z06 ?_
 refine Z06 ?_
 refine Z0h ?_
 refine Z02 ?_
 refine Zk [0] ?_
 refine Z03 (Z03 (Z00 (Zm ?_)))
 refine Z5f rfl rfl underlying9 rfl ?_
 refine Zw ?_
 refine Z01 (Z02 ?_)
 refine Zk [0, 43] ?_
 (first | refine Z0c rfl ?_ ?_ | refine Z08 rfl ?_ ?_) <;> intro hc4
 ·refine Z03 (Z00 (Zg (Zg (Z01 (Z02 ?_)))))
  refine Zk [2, 3] ?_
  refine Z0i ?_
  refine Z07 ?_
  refine Z0P results271 rfl rfl ?_
  refine ⟨_, rfl, ?_⟩
  have hl := pv_lead (t := t.drop z) (fun x hx => Z5w hall x (List.mem_of_mem_drop hx)) ZO (fun h => hc3 ⟨ZO, h⟩)
  have hb : (10 : Int) ^ 2467 ≤ 10 ^ ((t.drop z).length - 1) := Ma.pow_mono ZO ZO
  have hsp := Z5A (t.take z) (t.drop z).length (t.drop z) rfl
  rw [List.take_append_drop, hpz, Int.zero_mul, Int.zero_add] at hsp
  have hbig := big10
  have hlong : 8192 < Ma.blen (pv t) := by
   have h0 : 0 ≤ pv t := (Z50 _ t rfl (Z5w hall)).1
   rcases Int.lt_or_le 8192 (Ma.blen (pv t)) with h | h
   ·exact h
   have := (Ma.blen_le_iff h0 8192).1 h
   omega
  rw [parsed_long hc2 hall hlong]
  exact ⟨_, _, rfl, Ma.Cn.nil, (H2.nil 24).grows⟩
 refine Z0a (Z02 ?_)
 refine Zk [0] ?_
 refine Z03 (Z00 (Zg (Z01 (Z02 (Z03 (Z0d ?_))))))
 refine Z0z (ι := Nat × List Int × Value) (fun (z0 : Nat × List Int × Value) => match z0 with | ⟨y, o, vo⟩ => t.length - y) (fun (z0 : Nat × List Int × Value) (w' : World) => match z0 with | ⟨y, o, vo⟩ => St w w.heap.size Z0J ([As.ri 24 .u64 vo o]) w' ∧ z ≤ y ∧ y ≤ t.length ∧ U o ∧ o.length + z ≤ y ∧ nv o = pv (t.take y) ∧ (nv o = 0 ∨ (t.length - y) % 19 = 0)) (fun (z0 : Nat × List Int × Value) => match z0 with | ⟨y, o, vo⟩ => [(0, str (t.drop y)), (5, vo)]) [] (z, [], .slice none 0 0) ?_ .nil ?_ ?_
 ·exact ⟨H2.nil 24, ZO, ZO, (fun x h => by cases h), by simp, by rw [hpz]; rfl, .inl rfl⟩
 ·exact (.cons rfl ZN (.cons rfl ZN .nil))
 rintro ⟨y, o, vo⟩ w3 ⟨H3, hzy, hy, hUo, hol, hval, h19⟩
 show RunC P _ _ _ (_ :: _) _
 have hdy : (t.drop y).length = t.length - y := List.length_drop
 refine Z03 (Z03 (Z00 (Zm ?_)))
 refine Z5f rfl rfl underlying9 rfl ?_
 refine Zw ?_
 refine Z01 (Z02 ?_)
 refine Zk [0, 5, 46] ?_
 (first | refine Z0c rfl ?_ ?_ | refine Z08 rfl ?_ ?_) <;> intro hc5
 ·refine Z0a (Z02 ?_)
  refine Zk [0, 5] ?_
  refine Z0d (Z03 (Z00 (Zm ?_)))
  refine Z5f rfl rfl underlying9 rfl ?_
  refine Z0W rfl rfl rfl rfl (Z0l ZO) ?_
  refine Z2e rfl rfl rfl rfl ZO (Z2E ZO) ?_
  refine Z0y rfl rfl rfl rfl (Z0l ZO) ?_
  refine Zg (Z01 (Z02 ?_))
  refine Zk [0, 5, 6] ?_
  refine Z03 (Z00 (Zg (Z01 (Z02 (Z03 (Z03 (Z00 (Zm (Zm (Z01 (Z02 ?_)))))))))))
  refine Z0d ?_
  refine Z0z (ι := Nat × Int) (fun (z0 : Nat × Int) => match z0 with | ⟨k, ad⟩ => (t.length - y - 1) % 19 + 1 - k) (fun (z0 : Nat × Int) (w' : World) => match z0 with | ⟨k, ad⟩ => St w w.heap.size Z0J ([As.ri 24 .u64 vo o]) w' ∧ k ≤ (t.length - y - 1) % 19 + 1 ∧ ad = pv ((t.drop y).take k) ∧ 0 ≤ ad ∧ ad < 10 ^ k) (fun (z0 : Nat × Int) => match z0 with | ⟨k, ad⟩ => [(7, .int .u64 ad), (53, .int .i64 (k : Int))]) [0, 5, 6, 52] (0, 0) ?_ (.cons rfl (.cons rfl (.cons rfl (.cons rfl .nil)))) ?_ ?_
  ·exact ⟨H3, ZO, by simp [pv], ZO, by decide⟩
  ·exact (.cons rfl ZN (.cons rfl ZN .nil))
  rintro ⟨k, ad⟩ w4 ⟨H4, hkn, had, had0, had1⟩
  show RunC P _ _ _ (_ :: _) _
  have hp1 : 10 * ad + 9 < 10 ^ (k + 1) := by rw [Int.pow_succ]; omega
  have hp2 := Ma.pow_mono (show (1 : Int) ≤ 10 by omega) (show k + 1 ≤ 20 by omega)
  have hp3 : k < (t.length - y - 1) % 19 + 1 → 10 * ad + 9 < 10000000000000000000 := fun h => by
   have := Ma.pow_mono (show (1 : Int) ≤ 10 by omega) (show k + 1 ≤ 19 by omega)
   rw [ten19] at this
   omega
  refine Z03 (Z00 ?_)
  refine Zl ?_
  refine Z01 (Z02 (Z03 ?_))
  (first | refine Z0c rfl ?_ ?_ | refine Z08 rfl ?_ ?_) <;> intro hc6
  ·refine Z0a (Z02 ?_)
   refine Zk [0, 5, 6, 7, 52, 53] ?_
   refine Z03 (Z0d (Z03 (Z00 (Zm (Zg (Z01 (Z02 ?_)))))))
   refine Zk [0, 5, 6, 7, 8, 52, 53] ?_
   refine Z00 ?_
   have hdk := (hall (y + k) ZO).le
   rw [← Z4Y] at hdk
   refine Zm ?_
   refine Z20 rfl rfl rfl rfl (Z1p ZO) ?_
   refine Zm (Zm ?_)
   refine Z6m rfl rfl underlying9 rfl rfl rfl ZI (fun hb20_4 => ?_)
   refine Z0W rfl rfl rfl rfl (w_u8 ZO) ?_
   refine Z5a rfl rfl underlying5 underlying24 rfl (Z1p ZO) ?_
   refine Z0y rfl rfl rfl rfl (Z1p ZO) ?_
   refine Zg (Z01 ?_)
   refine Z0F ?_
   refine Z02 ?_
   refine Zk [0, 5, 6, 7, 52, 53] ?_
   refine Z00 ?_
   refine Z0y rfl rfl rfl rfl (Z0l ZO) ?_
   refine Zm (Z01 ?_)
   refine Z0p (i := (k, ad)) (k + 1, 10 * ad + ((((t.drop y).getD k 0).toNat : Int) - 48)) ?_ ?_ (.cons rfl (.cons rfl (.cons rfl (.cons rfl .nil)))) ?_
   ·first | omega | (simp; omega)
   ·refine ⟨H4, ZO, ?_, ZO, ZO⟩
    rw [pv_succ (t.drop y) ZO, ← had]
    omega
   exact (.cons rfl ZN (.cons rfl ZN .nil))
  refine Z0H ?_
  refine Z06 ?_
  refine Z06 ?_
  refine Z0h ?_
  refine Z02 ?_
  refine Zk [0, 5, 6, 7] ?_
  refine Z03 (Z03 (Z00 ?_))
  have hkn2 : k = (t.length - y - 1) % 19 + 1 := by omega
  have hadb : ad ≤ 18446744073709551615 := by
   have := Ma.pow_mono (show (1 : Int) ≤ 10 by omega) (show k ≤ 19 by omega)
   rw [ten19] at this
   omega
  refine Zm ?_
  refine Z0u rfl rfl underlying155 rfl (by first | exact H4.io mem0 | assumption) ?_
  refine Zm (Z01 (Z02 ?_))
  refine Zk [0, 5, 6, 7, 66, 67] ?_
  refine Z0d ?_
  refine Z0z (ι := Nat × List Int × Int) (fun (z0 : Nat × List Int × Int) => match z0 with | ⟨i, o', c⟩ => o.length - i) (fun (z0 : Nat × List Int × Int) (w' : World) => match z0 with | ⟨i, o', c⟩ => St w w.heap.size Z0J ([As.ri 24 .u64 vo o']) w' ∧ i ≤ o.length ∧ o'.length = o.length ∧ U o' ∧ 0 ≤ c ∧ c ≤ 18446744073709551615 ∧ (∀ k, i ≤ k → o'.getD k 0 = o.getD k 0) ∧ nv (o'.take i) + 18446744073709551616 ^ i * c = 10000000000000000000 * nv (o.take i) + ad) (fun (z0 : Nat × List Int × Int) => match z0 with | ⟨i, o', c⟩ => [(7, .int .u64 c), (67, .int .i64 (i : Int))]) [0, 5, 6, 66] (0, o, ad) ?_ (.cons rfl (.cons rfl (.cons rfl (.cons rfl .nil)))) ?_ ?_
  ·exact ⟨H4, ZO, rfl, hUo, had0, ZO, fun _ _ => rfl, by simp [Ma.vb]⟩
  ·exact (.cons rfl ZN (.cons rfl ZN .nil))
  rintro ⟨i, o', c⟩ w5 ⟨H5, hile, hol', hUo', hc1, hc2, hrest, hval'⟩
  show RunC P _ _ _ (_ :: _) _
  refine Z03 (Z00 ?_)
  refine Zl ?_
  refine Z01 (Z02 (Z03 ?_))
  (first | refine Z0c rfl ?_ ?_ | refine Z08 rfl ?_ ?_) <;> intro hc7
  ·refine Z0a (Z02 ?_)
   refine Zk [0, 5, 6, 7, 66, 67] ?_
   refine Z03 (Z0d (Z03 (Z00 (Zm (Zg (Z01 (Z02 ?_)))))))
   refine Zk [0, 5, 6, 7, 9, 66, 67] ?_
   refine Z03 (Z00 (Zm (Zm ?_)))
   refine Z0T rfl rfl rfl rfl underlying155 tz24 underlying24 rfl rfl (by first | exact H5.io mem0 | assumption) ZA rfl rfl ZI (fun hb25_2 => ?_)
   refine Z13 rfl rfl func269 rfl rfl (.cons rfl (.cons rfl .nil)) (mul64 _ _ ZA ZO _) ?_
   refine Zm ?_
   refine Zx (Zx (Zg (Zg (Z01 (Z02 ?_)))))
   refine Zk [0, 5, 6, 7, 9, 10, 11, 66, 67] ?_
   refine Z03 (Z00 ?_)
   have e1 : o'.getD i 0 * 10000000000000000000 / 18446744073709551616 * 18446744073709551616 + o'.getD i 0 * 10000000000000000000 % 18446744073709551616 = o'.getD i 0 * 10000000000000000000 := by omega
   have hlo : 0 ≤ o'.getD i 0 * 10000000000000000000 % 18446744073709551616 ∧ o'.getD i 0 * 10000000000000000000 % 18446744073709551616 ≤ 18446744073709551616 - 1 := by omega
   have hhi : 0 ≤ o'.getD i 0 * 10000000000000000000 / 18446744073709551616 ∧ o'.getD i 0 * 10000000000000000000 / 18446744073709551616 ≤ 18446744073709551616 - 2 := by omega
   generalize o'.getD i 0 * 10000000000000000000 / 18446744073709551616 = hi at *
   generalize o'.getD i 0 * 10000000000000000000 % 18446744073709551616 = lo at *
   refine Zm (Zm ?_)
   refine Z25 rfl rfl func266 rfl rfl rfl rfl (.cons rfl (.cons rfl (.cons rfl .nil))) (run_add64 _ _ _ hlo.1 hc1 ZO ZO _) ?_
   refine Zm ?_
   refine Zx (Zx (Zg (Zg (Z01 (Z02 ?_)))))
   refine Zk [0, 5, 6, 9, 10, 11, 12, 66, 67] ?_
   refine Z00 ?_
   have e2 : (lo + c + 0) % 18446744073709551616 + (lo + c + 0) / 18446744073709551616 * 18446744073709551616 = lo + c := by omega
   have hs1 : 0 ≤ (lo + c + 0) % 18446744073709551616 ∧ (lo + c + 0) % 18446744073709551616 ≤ 18446744073709551615 := by omega
   have hcc1 : 0 ≤ (lo + c + 0) / 18446744073709551616 ∧ (lo + c + 0) / 18446744073709551616 ≤ 1 := by omega
   generalize (lo + c + 0) % 18446744073709551616 = s1 at *
   generalize (lo + c + 0) / 18446744073709551616 = c1 at *
   refine Zm (Zm (Zm (Zm (Zm ?_))))
   refine Z0y rfl rfl rfl rfl (Z1p ZO) ?_
   refine Z2o rfl rfl underlying155 tz24 rfl rfl (by first | exact H5.io mem0 | assumption) rfl ZI (fun A27_6 c27_6 hA27_6 => ?_)
   refine Z1w H5 .head hA27_6 rfl tz24 rfl rfl ZI (fun w6 H6 => ?_)
   refine Zg (Z01 ?_)
   refine Z0F ?_
   refine Z02 ?_
   refine Zk [0, 5, 6, 7, 66, 67] ?_
   refine Z00 ?_
   refine Z0y rfl rfl rfl rfl (Z0l ZO) ?_
   refine Zm (Z01 ?_)
   refine Z0p (i := (i, o', c)) (i + 1, o'.set i s1, hi + c1) ?_ ?_ (.cons rfl (.cons rfl (.cons rfl (.cons rfl .nil)))) ?_
   ·first | omega | (simp; omega)
   ·have h1 := Ma.vb_set 18446744073709551616 o' i s1 ZO
    have h2 := Ma.vb_take_succ 18446744073709551616 o i
    have hx : o'.getD i 0 = o.getD i 0 := hrest i (Nat.le_refl _)
    have h3 := mul_place (V := nv (o'.take i)) (p := 18446744073709551616 ^ i) (o := 0) (s2 := s1) (c2 := 0) ZO hval' e1 e2 ZO
    refine ⟨H6, ZO, by simpa using hol', hUo'.set ZO _, ZO, ZO, fun k hk => by rw [Z17 _ ZO]; exact hrest k ZO, ?_⟩
    simp only [Int.sub_zero, Int.add_zero] at h3
    show Ma.vb _ _ + _ = _ * Ma.vb _ _ + _
    rw [h1, h2, Int.pow_succ, h3, hx, Int.mul_add]
    have : (18446744073709551616 : Int) ^ i * (o.getD i 0 * 10000000000000000000) = 10000000000000000000 * (18446744073709551616 ^ i * o.getD i 0) := by rw [Int.mul_comm (o.getD i 0), Int.mul_left_comm]
    show 10000000000000000000 * nv (o.take i) + ad + _ = 10000000000000000000 * nv (o.take i) + _ + ad
    omega
   exact (.cons rfl ZN (.cons rfl ZN .nil))
  refine Z0H ?_
  refine Z06 ?_
  refine Z06 ?_
  refine Z0h ?_
  refine Z02 ?_
  refine Zk [0, 5, 6, 7] ?_
  refine Z1q (ι := List Int × Value) (fun (z0 : List Int × Value) (w' : World) => match z0 with | ⟨o2, vo2⟩ => St w w.heap.size Z0J ([As.ri 24 .u64 vo2 o2]) w' ∧ U o2 ∧ o2.length ≤ o.length + 1 ∧ nv o2 = 10000000000000000000 * nv o + ad) (fun (z0 : List Int × Value) => match z0 with | ⟨o2, vo2⟩ => [(5, vo2)]) [0, 6] (.cons rfl (.cons rfl .nil)) ?_ ?_
  ·refine Z03 (Z00 (Zm ?_))
   refine Zw ?_
   refine Z01 (Z02 ?_)
   refine Zk [0, 5, 6, 7, 93] ?_
   (first | refine Z0c rfl ?_ ?_ | refine Z08 rfl ?_ ?_) <;> intro hc8
   ·refine Z00 (Zm (Zm ?_))
    refine Z2g H5 rfl rfl underlying155 ti24 rfl (.cons rfl ZR .nil) rfl rfl rfl (fun b30_2 w7 H7 => ?_)
    refine Z46 H7 rfl rfl underlying155 ti24 rfl rfl rfl rfl (by first | (simp [Value.oneCell']; done) | (intro u hu; rw [List.mem_singleton.1 hu]; assumption)) (by first | (simp; done) | (simp; omega)) (by first | (simp; done) | (simp; omega)) (fun v30_3 w8 H8 => ?_)
    refine Zg (Z01 ?_)
    refine Z0w (o' ++ [c], v30_3) ?_ (.cons rfl (.cons rfl .nil)) ?_
    ·obtain rfl : i = o.length := by omega
     rw [List.take_of_length_le ZO, List.take_length] at hval'
     refine ⟨H8.cast (by rw [ints_snoc]), fun y hy => (List.mem_append.1 hy).elim (hUo' y) (fun h => by rw [List.mem_singleton.1 h]; omega), by simp; omega, ?_⟩
     show Ma.vb _ _ = _
     rw [Ma.vb_append, hol']
     simp only [Ma.vb, Int.mul_zero, Int.add_zero]
     exact hval'
    exact (.cons rfl ZN .nil)
   refine Z0a ?_
   refine Z0w (o', vo) ?_ (.cons rfl (.cons rfl .nil)) ?_
   ·obtain rfl : i = o.length := by omega
    rw [List.take_of_length_le ZO, List.take_length, show c = 0 from by omega, Int.mul_zero, Int.add_zero] at hval'
    exact ⟨H5, hUo', ZO, hval'⟩
   exact (.cons rfl ZN .nil)
  rintro ⟨o2, vo2⟩ w9 ⟨H9, hU2, hl2, hv2⟩
  show RunC P _ _ _ (_ :: _) _
  refine Z00 (Zm (Zm ?_))
  refine Z76 (l := (t.length - y - 1) % 19 + 1) (h := (t.drop y).length) rfl rfl underlying9 rfl rfl rfl ZD ZD ZO ZI ?_
  refine Zg (Z01 ?_)
  refine Z0F ?_
  refine Z0p (i := (y, o, vo)) (y + ((t.length - y - 1) % 19 + 1), o2, vo2) ?_ ?_ .nil ?_
  ·first | omega | (simp; omega)
  ·have hsp := Z5q t y hy ((t.length - y - 1) % 19 + 1) ZO
   refine ⟨H9, ZO, ZO, hU2, ZO, ?_, .inr ZO⟩
   rw [hsp, hv2, ← hval, had, hkn2]
   rcases h19 with h | h
   ·rw [h]; simp
   rw [show (t.length - y - 1) % 19 + 1 = 19 from by omega, ten19, Int.mul_comm]
  exact (.cons rfl (by exact congrArg str (by rw [List.take_length, List.drop_drop])) (.cons rfl ZN .nil))
 refine Z0H ?_
 refine Z06 ?_
 refine Z06 ?_
 refine Z0h ?_
 refine Z02 ?_
 refine Zk [5] ?_
 refine Z03 (Z00 (Zm ?_))
 refine Zc func268 (Z6z hUo ZO (H3.io mem0)) ?_
 rintro _ w10 ⟨v', ls, rfl, hcn, hT⟩
 have H10 := hT _ _ _ _ _ .head H3
 refine Zx (Zx (Zg (Zg (Z01 (Z02 ?_)))))
 refine Zk [2, 3] ?_
 refine Z0i ?_
 refine Z0P results271 rfl rfl ?_
 refine ⟨_, rfl, ?_⟩
 have hyt : y = t.length := by omega
 subst hyt
 rw [List.take_length] at hval
 rw [hval] at hcn ⊢
 by_cases hC : 8192 < Ma.blen (pv t)
 ·rw [if_pos hC] at hcn ⊢
  rw [parsed_long hc2 hall hC]
  exact ⟨_, _, rfl, hcn, H10.grows⟩
 rw [if_neg hC] at hcn ⊢
 rw [parsed_ok hc2 hall ZO]
 exact ⟨_, _, rfl, hcn, H10.grows⟩
theorem or_add {a b : Int} (k : Nat) (hk : k ≤ 64) (ha : 0 ≤ a ∧ a * 2 ^ k ≤ 18446744073709551615) (hb : 0 ≤ b ∧ b < 2 ^ k) : bitw .or .u64 (a * 2 ^ k) b = a * 2 ^ k + b := by
 obtain ⟨m, rfl⟩ := Int.eq_ofNat_of_zero_le ha.1
 obtain ⟨c, rfl⟩ := Int.eq_ofNat_of_zero_le hb.1
 have hp : (2 : Nat) ^ k ≤ 2 ^ 64 := Nat.pow_le_pow_right ZO hk
 have h64 : (2 : Nat) ^ 64 = 18446744073709551616 := by decide
 have e0 : ((m : Int) * 2 ^ k) = ((m * 2 ^ k : Nat) : Int) := by rw [Int.natCast_mul, Int.natCast_pow]; rfl
 have hc : c < 2 ^ k := by have := hb.2; exact_mod_cast this
 have hm : m * 2 ^ k ≤ 18446744073709551615 := by have := ha.2; rw [e0] at this; exact Int.ofNat_le.1 (show ((m * 2 ^ k : Nat) : Int) ≤ ((18446744073709551615 : Nat) : Int) from this)
 have hdisj : (m * 2 ^ k) ||| c = m * 2 ^ k + c := by
  rw [Nat.mul_comm]; exact (Nat.two_pow_add_eq_or_of_lt hc m).symm
 have hsum : m * 2 ^ k + c < 2 ^ 64 := by
  rw [← hdisj]; exact Nat.or_lt_two_pow ZO ZO
 show IntKind.u64.wrap _ = _
 have e : (BitVec.ofInt IntKind.u64.bits ((m : Int) * 2 ^ k) ||| BitVec.ofInt IntKind.u64.bits (c : Int)).toNat = m * 2 ^ k + c := by
  show (BitVec.ofInt 64 ((m : Int) * 2 ^ k) ||| BitVec.ofInt 64 (c : Int)).toNat = _
  rw [BitVec.toNat_or, e0, Z1D ZO, Z1D ZO, Int.toNat_natCast, Int.toNat_natCast, hdisj]
 rw [e, Z1p ZO, e0]
 omega
theorem div_of {n y Q r : Int} (h : n = Q * y + r) (h0 : 0 ≤ r) (h1 : r < y) : n / y = Q ∧ n % y = r := by
 have e1 : n / y = Q := by rw [h, Int.add_comm, Int.add_mul_ediv_right _ _ ZO, Int.ediv_eq_zero_of_lt h0 h1, Int.zero_add]
 have e2 : n % y = r := by rw [h, Int.add_comm, Int.add_mul_emod_self_right, Int.emod_eq_of_lt h0 h1]
 exact ⟨e1, e2⟩
section
variable {X u a b q rh V : Int}
theorem kn_up (hV : a * 4294967296 + b = V) (h0 : 0 < V) (hq : q * a + rh = X) (h : q * b ≤ 4294967296 * rh + u) : q ≤ (X * 4294967296 + u) / V := by
 rw [Int.le_ediv_iff_mul_le h0, ← hV, Int.mul_add, ← Int.mul_assoc]
 omega
theorem kn_dn (hV : a * 4294967296 + b = V) (h0 : 0 < V) (hq : q * a + rh = X) (h : 4294967296 * rh + u < q * b) : (X * 4294967296 + u) / V < q := by
 refine Int.ediv_lt_of_lt_mul h0 ?_
 rw [← hV, Int.mul_add, ← Int.mul_assoc]
 omega
theorem kn_lt (h0 : 0 < V) (hX : X < V) (hu : 0 ≤ u ∧ u < 4294967296) : (X * 4294967296 + u) / V < 4294967296 := Int.ediv_lt_of_lt_mul h0 (by omega)
theorem kn_start (hV : a * 4294967296 + b = V) (ha : 0 < a) (hb : 0 ≤ b) (hX : 0 ≤ X) (hu : 0 ≤ u ∧ u < 4294967296) : (X * 4294967296 + u) / V ≤ X / a := by
 have h0 : 0 < V := by omega
 rw [Int.le_ediv_iff_mul_le ha]
 have hn : 0 ≤ (X * 4294967296 + u) / V := Int.ediv_nonneg ZO ZO
 have h1 := Int.ediv_mul_le (X * 4294967296 + u) (show V ≠ 0 by omega)
 generalize (X * 4294967296 + u) / V = t at *
 rw [← hV, Int.mul_add, ← Int.mul_assoc] at h1
 have h2 := Int.mul_nonneg hn hb
 omega
theorem kn_top (hV : a * 4294967296 + b = V) (ha : 2147483648 ≤ a) (hb : b < 4294967296) (hX : X < V) : X / a ≤ 4294967297 := by
 have : X / a < 4294967298 := Int.ediv_lt_of_lt_mul (by omega) (by omega)
 omega
theorem kn_rem (h0 : 0 < V) : 0 ≤ X * 4294967296 + u - (X * 4294967296 + u) / V * V ∧ X * 4294967296 + u - (X * 4294967296 + u) / V * V < V := by
 have e := Int.emod_add_mul_ediv (X * 4294967296 + u) V
 have h1 := Int.emod_nonneg (X * 4294967296 + u) (show V ≠ 0 by omega)
 have h2 := Int.emod_lt_of_pos (X * 4294967296 + u) h0
 have e2 : V * ((X * 4294967296 + u) / V) = (X * 4294967296 + u) / V * V := Int.mul_comm _ _
 omega
end
theorem kn_fin {N y D V X u1 u0 q1 q0 R R2 : Int} (hD : 0 < D) (hV : y * D = V) (hN : X * 18446744073709551616 + (u1 * 4294967296 + u0) = N * D) (h1 : R = X * 4294967296 + u1 - q1 * V) (h2 : R2 = R * 4294967296 + u0 - q0 * V) (h0 : 0 ≤ R2) (h3 : R2 < V) :
  N / y = q1 * 4294967296 + q0 ∧ N % y = R2 / D := by
 have e : R2 = (N - (q1 * 4294967296 + q0) * y) * D := by
  rw [Int.sub_mul, ← hN, Int.mul_assoc, hV, Int.add_mul, Int.mul_right_comm]
  omega
 have e2 : R2 / D = N - (q1 * 4294967296 + q0) * y := by rw [e, Int.mul_ediv_cancel _ ZO]
 have h4 : 0 ≤ N - (q1 * 4294967296 + q0) * y := by
  rw [← e2]; exact Int.ediv_nonneg h0 ZO
 have h5 : N - (q1 * 4294967296 + q0) * y < y := by
  rw [← e2]
  exact Int.ediv_lt_of_lt_mul hD ZO
 have := div_of (n := N) (y := y) (Q := q1 * 4294967296 + q0) (r := R2 / D) (by rw [e2]; omega) ZO ZO
 exact this
theorem scaled {hi lo : Int} {k : Nat} (hk : k ≤ 64) : (hi * 2 ^ k + lo / 2 ^ (64 - k)) * 18446744073709551616 + lo * 2 ^ k % 18446744073709551616 = (hi * 18446744073709551616 + lo) * 2 ^ k := by
 have hp : (2 : Int) ^ (64 - k) * 2 ^ k = 18446744073709551616 := by rw [← Int.pow_add, show 64 - k + k = 64 from by omega]; rfl
 have e : lo * 2 ^ k / 18446744073709551616 = lo / 2 ^ (64 - k) := by
  rw [← hp]; exact Int.mul_ediv_mul_of_pos_left _ _ (Ma.pow_pos ZO k)
 have := Int.emod_add_mul_ediv (lo * 2 ^ k) 18446744073709551616
 rw [e] at this
 rw [Int.add_mul, Int.add_mul, Int.mul_right_comm]
 omega
theorem lz64 (x : Int) (hx : 0 ≤ x ∧ x ≤ 18446744073709551615) (w : World) :
  Z0f P 288 [.int .u64 x] w fun r w' => r = .int .i64 (64 - Ma.blen x) ∧ w = w' := by
 refine Z0o func288 rfl ntmps288 rfl ?_
 have hb0 := Ma.blen_nonneg x
 have hb1 := (Ma.blen_le_iff hx.1 64).2 ZO
 refine Z03 (Z00 (Zg (Z01 (Z02 ?_))))
 refine Zk [0] ?_
 refine Z03 (Z00 (Zm ?_))
 refine Z13 rfl rfl func275 rfl rfl (.cons rfl .nil) (len64 _ hx _) ?_
 refine Z0W rfl rfl rfl rfl (Z0l ZO) ?_
 refine Zg (Z01 (Z02 ?_))
 refine Zk [2] ?_
 refine Z0i ?_
 refine Z0e results288 rfl ?_
 refine ⟨_, rfl, ?_⟩
 exact ⟨rfl, rfl⟩
theorem div64 (hi lo y : Int) (hhi : 0 ≤ hi ∧ hi < y) (hlo : 0 ≤ lo ∧ lo ≤ 18446744073709551615) (hy : y ≤ 18446744073709551615) (w : World) :
  Z0f P 272 [.int .u64 hi, .int .u64 lo, .int .u64 y] w fun r w' => r = .tuple #[.int .u64 ((hi * 18446744073709551616 + lo) / y), .int .u64 ((hi * 18446744073709551616 + lo) % y)] ∧ Grow w w' [] := by
 refine Z0o func272 rfl ntmps272 rfl ?_
 have H0 := St.start w
 refine Z03 (Z00 (Zg (Zg (Z01 (Z02 ?_)))))
 refine Zk [0, 1, 2] ?_
 refine Z03 (Z03 (Z00 (Zm ?_)))
 refine Ze ?_
 refine Z01 (Z02 ?_)
 refine Zk [0, 1, 2, 20] ?_
 (first | refine Z0c rfl ?_ ?_ | refine Z08 rfl ?_ ?_) <;> intro hc0
 ·exact absurd hc0 ZO
 refine Z0a (Z02 ?_)
 refine Zk [0, 1, 2] ?_
 refine Z03 (Z03 (Z00 (Zm (Zm ?_))))
 refine Zf ?_
 refine Z01 (Z02 ?_)
 refine Zk [0, 1, 2, 24] ?_
 (first | refine Z0c rfl ?_ ?_ | refine Z08 rfl ?_ ?_) <;> intro hc1
 ·exact absurd hc1 ZO
 refine Z0a (Z02 ?_)
 refine Zk [0, 1, 2] ?_
 refine Z03 (Z03 (Z00 (Zm ?_)))
 refine Ze ?_
 refine Z01 (Z02 ?_)
 refine Zk [0, 1, 2, 27] ?_
 (first | refine Z0c rfl ?_ ?_ | refine Z08 rfl ?_ ?_) <;> intro hc2
 ·refine Z03 ?_
  refine Z2F ZK ZK ?_
  have H1 := H0.drewn
  refine Zm (Zm ?_)
  refine Z2D rfl rfl rfl rfl ZO (Z78 ZO) ?_
  refine Zm (Zm ?_)
  refine Z2e rfl rfl rfl rfl ZO (Z2E ZO) ?_
  refine Zg (Zg (Z01 (Z02 ?_)))
  refine Zk [6, 7] ?_
  refine Z0i ?_
  refine Z07 ?_
  refine Z0P results272 rfl rfl ?_
  refine ⟨_, rfl, ?_⟩
  subst hc2
  exact ⟨by simp, H1.grows⟩
 refine Z0a (Z02 ?_)
 refine Zk [0, 1, 2] ?_
 refine Z03 (Z00 (Zm ?_))
 refine Z13 rfl rfl func288 rfl rfl (.cons rfl .nil) (lz64 _ ZO _) ?_
 obtain ⟨m, hm, hm1, hm2⟩ := Ma.blen_spec (n := y) ZO
 have hm63 : m < 64 := by
  have := (Ma.blen_le_iff (n := y) ZO 64).2 ZO
  omega
 obtain ⟨k, hk⟩ : ∃ k : Nat, k = 63 - m := ⟨_, rfl⟩
 have hD0 := Ma.pow_pos (show (0 : Int) < 2 by omega) k
 have hDD0 := Ma.pow_pos (show (0 : Int) < 2 by omega) (64 - k)
 refine Z0j (s := 35) (v' := .int .i64 ((k : Nat) : Int)) rfl (by rw [hm]; refine congrArg (Value.int _) ?_; omega) ?_
 refine Z5a rfl rfl underlying3 underlying72 rfl (Z1p ZO) ?_
 refine Zg (Z01 (Z02 ?_))
 refine Zk [0, 1, 2, 8] ?_
 refine Z03 (Z00 ?_)
 have hV1 : 9223372036854775808 ≤ y * 2 ^ k := by
  have : (2 : Int) ^ m * 2 ^ k ≤ y * 2 ^ k := Int.mul_le_mul_of_nonneg_right hm1 ZO
  rw [← Int.pow_add, show m + k = 63 from by omega] at this
  omega
 have hV2 : y * 2 ^ k ≤ 18446744073709551615 := by
  have : (y + 1) * 2 ^ k ≤ 2 ^ (m + 1) * 2 ^ k := Int.mul_le_mul_of_nonneg_right ZO ZO
  rw [← Int.pow_add, show m + 1 + k = 64 from by omega, Int.add_mul] at this
  omega
 have hDk : (2 : Int) ^ (min ((k : Nat) : Int).toNat IntKind.u64.bits) = 2 ^ k := by
  show (2 : Int) ^ (min ((k : Nat) : Int).toNat 64) = 2 ^ k
  rw [Int.toNat_natCast, Nat.min_eq_left (show k ≤ 64 by omega)]
 have hDDk : (2 : Int) ^ (min (64 - ((k : Nat) : Int)).toNat IntKind.u64.bits) = 2 ^ (64 - k) := by
  show (2 : Int) ^ (min (64 - ((k : Nat) : Int)).toNat 64) = 2 ^ (64 - k)
  rw [show (64 - ((k : Nat) : Int)).toNat = 64 - k from by omega, Nat.min_eq_left (show 64 - k ≤ 64 by omega)]
 have hhD : 0 ≤ hi * 2 ^ k := Int.mul_nonneg hhi.1 ZO
 have hhD1 : hi * 2 ^ k + 2 ^ k ≤ y * 2 ^ k := by
  have : (hi + 1) * 2 ^ k ≤ y * 2 ^ k := Int.mul_le_mul_of_nonneg_right ZO ZO
  rw [Int.add_mul, Int.one_mul] at this
  exact this
 have hp : (2 : Int) ^ k * 2 ^ (64 - k) = 18446744073709551616 := by rw [← Int.pow_add, show k + (64 - k) = 64 from by omega]; rfl
 have hlD0 : 0 ≤ lo / 2 ^ (64 - k) := Int.ediv_nonneg hlo.1 ZO
 have hlD1 : lo / 2 ^ (64 - k) < 2 ^ k := Int.ediv_lt_of_lt_mul hDD0 ZO
 have hsc := scaled (hi := hi) (lo := lo) (k := k) ZO
 refine Zm (Zm ?_)
 refine Z5I rfl rfl rfl rfl ZO (Z6B hDk (Z1p ZO)) ?_
 refine Zg (Z01 (Z02 ?_))
 refine Zk [0, 1, 2, 8] ?_
 refine Z03 (Z00 (Zm ?_))
 refine Z3e rfl rfl rfl rfl ZO (Z2b (d := 4294967296) (by decide) (by decide)) ?_
 refine Zg (Z01 (Z02 ?_))
 refine Zk [0, 1, 2, 8, 9] ?_
 refine Z03 (Z00 (Zm ?_))
 refine Z1i rfl rfl rfl rfl rfl (Z3r 32 (d := 4294967296) ZO ZO (by decide) (by decide)) ?_
 refine Zg (Z01 (Z02 ?_))
 refine Zk [0, 1, 2, 8, 9, 10] ?_
 refine Z03 (Z00 (Zm (Zm ?_)))
 refine Z5I rfl rfl rfl rfl ZO (Z6B hDk (Z1p ZO)) ?_
 refine Zm (Zm ?_)
 refine Z0W rfl rfl rfl rfl (Z1p ZO) ?_
 refine Z3e rfl rfl rfl rfl ZO (Z2b hDDk ZO) ?_
 refine Z1i rfl rfl rfl rfl rfl (or_add k ZO ZO ZO) ?_
 refine Zg (Z01 (Z02 ?_))
 refine Zk [1, 2, 8, 9, 10, 11] ?_
 refine Z03 (Z00 (Zm (Zm ?_)))
 refine Z5I rfl rfl rfl rfl ZO (Z6B hDk (Z2H _)) ?_
 refine Zg (Z01 (Z02 ?_))
 refine Zk [2, 8, 9, 10, 11, 12] ?_
 refine Z03 (Z00 (Zm ?_))
 refine Z3e rfl rfl rfl rfl ZO (Z2b (d := 4294967296) (by decide) (by decide)) ?_
 refine Zg (Z01 (Z02 ?_))
 refine Zk [2, 8, 9, 10, 11, 12, 13] ?_
 refine Z03 (Z00 (Zm ?_))
 refine Z1i rfl rfl rfl rfl rfl (Z3r 32 (d := 4294967296) ZO ZO (by decide) (by decide)) ?_
 refine Zg (Z01 (Z02 ?_))
 refine Zk [2, 8, 9, 10, 11, 13, 14] ?_
 refine Z03 (Z00 ?_)
 obtain ⟨V, hVd⟩ : ∃ V, y * 2 ^ k = V := ⟨_, rfl⟩
 obtain ⟨X, hXd⟩ : ∃ X, hi * 2 ^ k + lo / 2 ^ (64 - k) = X := ⟨_, rfl⟩
 obtain ⟨Z, hZd⟩ : ∃ Z, lo * 2 ^ k % 18446744073709551616 = Z := ⟨_, rfl⟩
 have hX0 : 0 ≤ X ∧ X < V := by omega
 have hZ0 : 0 ≤ Z ∧ Z < 18446744073709551616 := by omega
 rw [hVd] at hV1 hV2 ⊢
 rw [hXd] at hsc ⊢
 rw [hZd] at hsc ⊢
 have hVe : V / 4294967296 * 4294967296 + V % 4294967296 = V := by omega
 have hZe : Z / 4294967296 * 4294967296 + Z % 4294967296 = Z := by omega
 have ha : 2147483648 ≤ V / 4294967296 ∧ V / 4294967296 < 4294967296 := by omega
 have hb : 0 ≤ V % 4294967296 ∧ V % 4294967296 < 4294967296 := by omega
 have hu1 : 0 ≤ Z / 4294967296 ∧ Z / 4294967296 < 4294967296 := by omega
 have hu0 : 0 ≤ Z % 4294967296 ∧ Z % 4294967296 < 4294967296 := by omega
 rw [← hZe] at hsc
 clear hhD hhD1 hlD0 hlD1 hXd hZd hZe hZ0 hp hDD0 hDDk hm1 hm2
 generalize V / 4294967296 = a at *
 generalize V % 4294967296 = b at *
 generalize Z / 4294967296 = u1 at *
 generalize Z % 4294967296 = u0 at *
 have hXa := Int.ediv_mul_le X (show a ≠ 0 by omega)
 have hXa0 : 0 ≤ X / a * a := Int.mul_nonneg (Int.ediv_nonneg hX0.1 ZO) ZO
 have hXa1 : X - X / a * a < a := by
  have := Int.emod_lt_of_pos X (show 0 < a by omega)
  have e := Int.emod_add_mul_ediv X a
  rw [Int.mul_comm] at e
  omega
 have hXq := Int.ediv_nonneg hX0.1 (show 0 ≤ a by omega)
 refine Zm (Zm ?_)
 refine Z2D rfl rfl rfl rfl ZO (Z78 ZO) ?_
 refine Zg (Z01 (Z02 ?_))
 refine Zk [2, 8, 9, 10, 11, 13, 14, 15] ?_
 refine Z03 (Z00 (Zm (Zm (Zm ?_))))
 refine Z20 rfl rfl rfl rfl (Z1p ZO) ?_
 refine Z0W rfl rfl rfl rfl (Z1p ZO) ?_
 refine Zg (Z01 (Z02 ?_))
 refine Zk [2, 8, 9, 10, 11, 13, 14, 15, 16] ?_
 refine Z1q (ι := Int) (fun (q1 : Int) (w' : World) => St w w.heap.size Z0J ([]) w' ∧ q1 = (X * 4294967296 + u1) / V) (fun (q1 : Int) => [(15, .int .u64 q1)]) [2, 8, 9, 10, 11, 13, 14] (.cons rfl (.cons rfl (.cons rfl (.cons rfl (.cons rfl (.cons rfl (.cons rfl .nil))))))) ?_ ?_
 ·refine Z0d ?_
  refine Z0z (ι := Int × Int) (fun (z0 : Int × Int) => match z0 with | ⟨q, rh⟩ => q.toNat) (fun (z0 : Int × Int) (w' : World) => match z0 with | ⟨q, rh⟩ => St w w.heap.size Z0J ([]) w' ∧ 0 ≤ q ∧ q ≤ 4294967297 ∧ 0 ≤ rh ∧ rh < 4294967296 ∧ q * a + rh = X ∧ (X * 4294967296 + u1) / V ≤ q) (fun (z0 : Int × Int) => match z0 with | ⟨q, rh⟩ => [(15, .int .u64 q), (16, .int .u64 rh)]) [2, 8, 9, 10, 11, 13, 14] (X / a, X - X / a * a) ?_ (.cons rfl (.cons rfl (.cons rfl (.cons rfl (.cons rfl (.cons rfl (.cons rfl .nil))))))) ?_ ?_
  ·exact ⟨H0, Int.ediv_nonneg ZO ZO, kn_top hVe ZO ZO ZO, ZO, ZO, ZO, kn_start hVe ZO ZO ZO ZO⟩
  ·exact (.cons rfl ZN (.cons rfl ZN .nil))
  rintro ⟨q, rh⟩ w2 ⟨H2, hq0, hq1, hr0, hr1, hqa, hqt⟩
  show RunC P _ _ _ (_ :: _) _
  have hsub : (q - 1) * a = q * a - a := by rw [Int.sub_mul, Int.one_mul]
  have hltq := kn_lt (X := X) (u := u1) (V := V) ZO ZO ZO
  have hqn : 0 ≤ (X * 4294967296 + u1) / V := Int.ediv_nonneg ZO ZO
  refine Z03 (Z03 (Z00 (Zm ?_)))
  refine Zh ?_
  refine Zm ?_
  apply l_or 8 [2, 8, 9, 10, 11, 13, 14, 15, 16] rfl rfl (.cons rfl (.cons rfl (.cons rfl (.cons rfl (.cons rfl (.cons rfl (.cons rfl (.cons rfl (.cons rfl (.cons rfl .nil)))))))))) rfl rfl (fun _ => rfl) rfl rfl rfl
  ·intro hg17_3
   have hqb := Z23 (a := q) (b := b) (x := 4294967296) (y := 4294967296) ZO ZO
   refine Zm (Zm ?_)
   refine Z20 rfl rfl rfl rfl (Z1p ZO) ?_
   refine Zm ?_
   refine Z20 rfl rfl rfl rfl (Z1p ZO) ?_
   refine Zm ?_
   refine Z0y rfl rfl rfl rfl (Z1p ZO) ?_
   refine Zw ?_
   refine Z01 ?_
   exact Z0O rfl (.cons rfl (ZF hg17_3) (.cons rfl rfl (.cons rfl rfl (.cons rfl rfl (.cons rfl rfl (.cons rfl rfl (.cons rfl rfl (.cons rfl rfl (.cons rfl rfl (.cons rfl rfl .nil))))))))))
  refine Z01 (Z02 ?_)
  refine Zk [2, 8, 9, 10, 11, 13, 14, 15, 16, 78] ?_
  (first | refine Z0c rfl ?_ ?_ | refine Z08 rfl ?_ ?_) <;> intro hc3
  ·refine Z0a (Z02 ?_)
   refine Zk [2, 8, 9, 10, 11, 13, 14, 15, 16] ?_
   refine Z0d (Z03 (Z00 ?_))
   have hgt : (X * 4294967296 + u1) / V < q := by
    rcases hc3 with h | h
    ·omega
    exact kn_dn hVe ZO hqa h
   refine Zm ?_
   refine Z0W rfl rfl rfl rfl (Z1p ZO) ?_
   refine Zg (Z01 (Z02 ?_))
   refine Zk [2, 8, 9, 10, 11, 13, 14, 15, 16] ?_
   refine Z03 (Z00 (Zm (Zm ?_)))
   refine Z0y rfl rfl rfl rfl (Z1p ZO) ?_
   refine Zg (Z01 (Z02 ?_))
   refine Zk [2, 8, 9, 10, 11, 13, 14, 15, 16] ?_
   refine Z03 (Z00 (Zm ?_))
   refine Zh ?_
   refine Z01 (Z02 ?_)
   refine Zk [2, 8, 9, 10, 11, 13, 14, 15, 16, 85] ?_
   (first | refine Z0c rfl ?_ ?_ | refine Z08 rfl ?_ ?_) <;> intro hc4
   ·refine Z0H ?_
    refine Z62 rfl ?_
    refine Z06 ?_
    refine Z0h ?_
    refine Z0w (q - 1) ?_ (.cons rfl (.cons rfl (.cons rfl (.cons rfl (.cons rfl (.cons rfl (.cons rfl .nil))))))) ?_
    ·have hqb1 := Z23 (a := q - 1) (b := b) (x := 4294967297) (y := 4294967296) ZO ZO
     have hex := kn_up (X := X) (u := u1) (q := q - 1) (rh := rh + a) hVe ZO ZO ZO
     exact ⟨H2, ZO⟩
    exact (.cons rfl ZN .nil)
   refine Z0a ?_
   refine Z0F ?_
   refine Z0p (i := (q, rh)) (q - 1, rh + a) ?_ ?_ (.cons rfl (.cons rfl (.cons rfl (.cons rfl (.cons rfl (.cons rfl (.cons rfl .nil))))))) ?_
   ·first | omega | (simp; omega)
   ·exact ⟨H2, ZO, ZO, ZO, ZO, ZO, ZO⟩
   exact (.cons rfl ZN (.cons rfl ZN .nil))
  refine Z0H ?_
  refine Z06 ?_
  refine Z06 ?_
  refine Z0h ?_
  refine Z0w (q) ?_ (.cons rfl (.cons rfl (.cons rfl (.cons rfl (.cons rfl (.cons rfl (.cons rfl .nil))))))) ?_
  ·have hex := kn_up (X := X) (u := u1) hVe ZO hqa ZO
   exact ⟨H2, ZO⟩
  exact (.cons rfl ZN .nil)
 rintro q1 w3 ⟨H3, hq1⟩
 show RunC P _ _ _ (_ :: _) _
 refine Z03 (Z00 ?_)
 have hR := kn_rem (X := X) (u := u1) (V := V) ZO
 have hq1b := kn_lt (X := X) (u := u1) (V := V) ZO ZO ZO
 have hq1n : 0 ≤ (X * 4294967296 + u1) / V := Int.ediv_nonneg ZO ZO
 rw [← hq1] at hR hq1b hq1n
 clear hXa hXa0 hXa1 hXq
 refine Zm ?_
 refine Z20 rfl rfl rfl rfl (Z2H _) ?_
 refine Zm ?_
 refine Z0y rfl rfl rfl rfl (Z2H _) ?_
 refine Zm (Zm ?_)
 refine Z20 rfl rfl rfl rfl (Z2H _) ?_
 refine Z0W rfl rfl rfl rfl (Z2H _) ?_
 refine Zg (Z01 (Z02 ?_))
 refine Zk [2, 8, 9, 10, 14, 15, 17] ?_
 refine Z03 (Z00 ?_)
 refine Z0j (s := 17) (v' := .int .u64 (X * 4294967296 + u1 - q1 * V)) rfl (by refine congrArg (Value.int _) ?_; omega) ?_
 obtain ⟨R, hRd⟩ : ∃ R, X * 4294967296 + u1 - q1 * V = R := ⟨_, rfl⟩
 rw [hRd] at hR ⊢
 have hRa := Int.ediv_mul_le R (show a ≠ 0 by omega)
 have hRa0 : 0 ≤ R / a * a := Int.mul_nonneg (Int.ediv_nonneg hR.1 ZO) ZO
 have hRa1 : R - R / a * a < a := by
  have := Int.emod_lt_of_pos R (show 0 < a by omega)
  have e := Int.emod_add_mul_ediv R a
  rw [Int.mul_comm] at e
  omega
 have hRq := Int.ediv_nonneg hR.1 (show 0 ≤ a by omega)
 refine Zm (Zm ?_)
 refine Z2D rfl rfl rfl rfl ZO (Z78 ZO) ?_
 refine Zg (Z01 (Z02 ?_))
 refine Zk [2, 8, 9, 10, 14, 15, 17, 18] ?_
 refine Z03 (Z00 (Zm (Zm (Zm ?_))))
 refine Z20 rfl rfl rfl rfl (Z1p ZO) ?_
 refine Z0W rfl rfl rfl rfl (Z1p ZO) ?_
 refine Zg (Z01 (Z02 ?_))
 refine Zk [2, 8, 9, 10, 14, 15, 16, 17, 18] ?_
 refine Z1q (ι := Int) (fun (q0 : Int) (w' : World) => St w w.heap.size Z0J ([]) w' ∧ q0 = (R * 4294967296 + u0) / V) (fun (q0 : Int) => [(18, .int .u64 q0)]) [2, 8, 14, 15, 17] (.cons rfl (.cons rfl (.cons rfl (.cons rfl (.cons rfl .nil))))) ?_ ?_
 ·refine Z0d ?_
  refine Z0z (ι := Int × Int) (fun (z0 : Int × Int) => match z0 with | ⟨q, rh⟩ => q.toNat) (fun (z0 : Int × Int) (w' : World) => match z0 with | ⟨q, rh⟩ => St w w.heap.size Z0J ([]) w' ∧ 0 ≤ q ∧ q ≤ 4294967297 ∧ 0 ≤ rh ∧ rh < 4294967296 ∧ q * a + rh = R ∧ (R * 4294967296 + u0) / V ≤ q) (fun (z0 : Int × Int) => match z0 with | ⟨q, rh⟩ => [(16, .int .u64 rh), (18, .int .u64 q)]) [2, 8, 9, 10, 14, 15, 17] (R / a, R - R / a * a) ?_ (.cons rfl (.cons rfl (.cons rfl (.cons rfl (.cons rfl (.cons rfl (.cons rfl .nil))))))) ?_ ?_
  ·exact ⟨H3, Int.ediv_nonneg ZO ZO, kn_top hVe ZO ZO ZO, ZO, ZO, ZO, kn_start hVe ZO ZO ZO ZO⟩
  ·exact (.cons rfl ZN (.cons rfl ZN .nil))
  rintro ⟨q, rh⟩ w4 ⟨H4, hq0, hq1, hr0, hr1, hqa, hqt⟩
  show RunC P _ _ _ (_ :: _) _
  have hsub : (q - 1) * a = q * a - a := by rw [Int.sub_mul, Int.one_mul]
  have hltq := kn_lt (X := R) (u := u0) (V := V) ZO ZO ZO
  have hqn : 0 ≤ (R * 4294967296 + u0) / V := Int.ediv_nonneg ZO ZO
  refine Z03 (Z03 (Z00 (Zm ?_)))
  refine Zh ?_
  refine Zm ?_
  apply l_or 8 [2, 8, 9, 10, 14, 15, 16, 17, 18] rfl rfl (.cons rfl (.cons rfl (.cons rfl (.cons rfl (.cons rfl (.cons rfl (.cons rfl (.cons rfl (.cons rfl (.cons rfl .nil)))))))))) rfl rfl (fun _ => rfl) rfl rfl rfl
  ·intro hg24_3
   have hqb := Z23 (a := q) (b := b) (x := 4294967296) (y := 4294967296) ZO ZO
   refine Zm (Zm ?_)
   refine Z20 rfl rfl rfl rfl (Z1p ZO) ?_
   refine Zm ?_
   refine Z20 rfl rfl rfl rfl (Z1p ZO) ?_
   refine Zm ?_
   refine Z0y rfl rfl rfl rfl (Z1p ZO) ?_
   refine Zw ?_
   refine Z01 ?_
   exact Z0O rfl (.cons rfl (ZF hg24_3) (.cons rfl rfl (.cons rfl rfl (.cons rfl rfl (.cons rfl rfl (.cons rfl rfl (.cons rfl rfl (.cons rfl rfl (.cons rfl rfl (.cons rfl rfl .nil))))))))))
  refine Z01 (Z02 ?_)
  refine Zk [2, 8, 9, 10, 14, 15, 16, 17, 18, 113] ?_
  (first | refine Z0c rfl ?_ ?_ | refine Z08 rfl ?_ ?_) <;> intro hc5
  ·refine Z0a (Z02 ?_)
   refine Zk [2, 8, 9, 10, 14, 15, 16, 17, 18] ?_
   refine Z0d (Z03 (Z00 ?_))
   have hgt : (R * 4294967296 + u0) / V < q := by
    rcases hc5 with h | h
    ·omega
    exact kn_dn hVe ZO hqa h
   refine Zm ?_
   refine Z0W rfl rfl rfl rfl (Z1p ZO) ?_
   refine Zg (Z01 (Z02 ?_))
   refine Zk [2, 8, 9, 10, 14, 15, 16, 17, 18] ?_
   refine Z03 (Z00 (Zm (Zm ?_)))
   refine Z0y rfl rfl rfl rfl (Z1p ZO) ?_
   refine Zg (Z01 (Z02 ?_))
   refine Zk [2, 8, 9, 10, 14, 15, 16, 17, 18] ?_
   refine Z03 (Z00 (Zm ?_))
   refine Zh ?_
   refine Z01 (Z02 ?_)
   refine Zk [2, 8, 9, 10, 14, 15, 16, 17, 18, 120] ?_
   (first | refine Z0c rfl ?_ ?_ | refine Z08 rfl ?_ ?_) <;> intro hc6
   ·refine Z0H ?_
    refine Z62 rfl ?_
    refine Z06 ?_
    refine Z0h ?_
    refine Z0w (q - 1) ?_ (.cons rfl (.cons rfl (.cons rfl (.cons rfl (.cons rfl .nil))))) ?_
    ·have hqb1 := Z23 (a := q - 1) (b := b) (x := 4294967297) (y := 4294967296) ZO ZO
     have hex := kn_up (X := R) (u := u0) (q := q - 1) (rh := rh + a) hVe ZO ZO ZO
     exact ⟨H4, ZO⟩
    exact (.cons rfl ZN .nil)
   refine Z0a ?_
   refine Z0F ?_
   refine Z0p (i := (q, rh)) (q - 1, rh + a) ?_ ?_ (.cons rfl (.cons rfl (.cons rfl (.cons rfl (.cons rfl (.cons rfl (.cons rfl .nil))))))) ?_
   ·first | omega | (simp; omega)
   ·exact ⟨H4, ZO, ZO, ZO, ZO, ZO, ZO⟩
   exact (.cons rfl ZN (.cons rfl ZN .nil))
  refine Z0H ?_
  refine Z06 ?_
  refine Z06 ?_
  refine Z0h ?_
  refine Z0w (q) ?_ (.cons rfl (.cons rfl (.cons rfl (.cons rfl (.cons rfl .nil))))) ?_
  ·have hex := kn_up (X := R) (u := u0) hVe ZO hqa ZO
   exact ⟨H4, ZO⟩
  exact (.cons rfl ZN .nil)
 rintro q0 w5 ⟨H5, hq0⟩
 show RunC P _ _ _ (_ :: _) _
 refine Z03 (Z00 ?_)
 have hR2 := kn_rem (X := R) (u := u0) (V := V) ZO
 have hq0b := kn_lt (X := R) (u := u0) (V := V) ZO ZO ZO
 have hq0n : 0 ≤ (R * 4294967296 + u0) / V := Int.ediv_nonneg ZO ZO
 rw [← hq0] at hR2 hq0b hq0n
 refine Zm ?_
 refine Z20 rfl rfl rfl rfl (Z1p ZO) ?_
 refine Zm ?_
 refine Z0y rfl rfl rfl rfl (Z1p ZO) ?_
 refine Zm ?_
 refine Z20 rfl rfl rfl rfl (Z2H _) ?_
 refine Zm ?_
 refine Z0y rfl rfl rfl rfl (Z2H _) ?_
 refine Zm (Zm ?_)
 refine Z20 rfl rfl rfl rfl (Z2H _) ?_
 refine Z0W rfl rfl rfl rfl (Z2H _) ?_
 refine Zm ?_
 refine Z0j (s := 132) (v' := .int .u64 (R * 4294967296 + u0 - q0 * V)) rfl (by refine congrArg (Value.int _) ?_; omega) ?_
 refine Z3e rfl rfl rfl rfl ZO (Z2b hDk ZO) ?_
 refine Zg (Zg (Z01 (Z02 ?_)))
 refine Zk [6, 7] ?_
 refine Z0i ?_
 refine Z0P results272 rfl rfl ?_
 refine ⟨_, rfl, ?_⟩
 have hf := kn_fin hD0 hVd hsc hRd.symm rfl hR2.1 hR2.2
 exact ⟨by rw [hf.1, hf.2], H5.grows⟩
theorem Z2U {v : Value} {l : List Int} (hU : U l) (hL : l.length ≤ 17592186044416) {w : World} (hv : IV w v (ints .u64 l)) : Z0f P 264 [v] w fun r w' => ∃ v', r = v' ∧ Turn w w' (As.ri 24 .u64 v l) (As.ri 24 .u64 v' (Ma.tr l)) := by
 obtain ⟨A, c, rfl, hc, hs⟩ := hv
 refine (trim A c l hU hL w ⟨A, c, rfl, hc, hs⟩).mono ?_
 rintro r _ ⟨rfl, rfl⟩
 exact ⟨_, rfl, fun w0 B M σ σ' u hw => trim_st u hw⟩
theorem nv_blen {l : List Int} (h : U l) : Ma.blen (nv l) ≤ 64 * l.length := by
 have h1 : nv l < _ := Ma.vb_lt (show (0 : Int) < 18446744073709551616 by omega) h.dg
 rw [show (18446744073709551616 : Int) = 2 ^ 64 from rfl, ← Int.pow_mul] at h1
 have := (Ma.blen_le_iff h.nv_nonneg (64 * l.length)).2 h1
 omega
theorem dt0_piece {M r : Int} {i : Nat} (hi : i < 19) (hM : 0 ≤ M) (hr : 0 ≤ r) (h : 0 < M ∨ 0 < r) : dt0 (M * 10 ^ (19 - i) + r).toNat = dt0 (M * 10 ^ (19 - (i + 1)) + r / 10).toNat ++ [dig (r % 10)] := by
 have hp := Ma.pow_pos (show (0 : Int) < 10 by omega) (19 - (i + 1))
 have e : M * 10 ^ (19 - i) = M * 10 ^ (19 - (i + 1)) * 10 := by rw [show 19 - i = 19 - (i + 1) + 1 from by omega, Int.pow_succ, Int.mul_assoc]
 have hmp := Int.mul_nonneg hM (Int.le_of_lt hp)
 have hpos : 0 < M * 10 ^ (19 - i) + r := by
  rcases h with h | h
  ·have := Int.mul_pos h hp
   omega
  omega
 rw [Z5N hpos, e]
 congr 1
 ·congr 2; omega
 congr 2; omega
theorem Z3w {α : Type} (l : List α) (i k : Nat) (x d : α) (h : i < l.length) : (l.set i x).getD k d = if i = k then x else l.getD k d := by
 by_cases e : i = k
 ·subst e; simp [List.getD, h]
 simp [List.getD, List.getElem?_set_ne e, e]
theorem rev_of {l o : List UInt8} (hl : o.length = l.length) (h : ∀ k, k < l.length → o.getD k 0 = l.getD (l.length - 1 - k) 0) : o = l.reverse := by
 refine List.ext_getElem (by simp [hl]) fun k h1 h2 => ?_
 have := h k ZO
 have e1 : o.getD k 0 = o[k] := by simp [List.getD, h1]
 have e2 : l.getD (l.length - 1 - k) 0 = l[l.length - 1 - k]'ZO := by simp [List.getD, show l.length - 1 - k < l.length by omega]
 rw [List.getElem_reverse, ← e1, this, e2]
theorem textN (v : Value) (l : List Int) (hU : U l) (hL : l.length ≤ 65536) (w : World) (hv : IV w v (ints .u64 l)) :
  Z0f P 246 [v] w fun r w' => r = str (dtx (nv l)) ∧ Grow w w' [] := by
 refine Z0o func246 rfl ntmps246 rfl ?_
 have H0 := St.start w
 have hlen := dt0_len _ (nv l) hU.nv_nonneg (Nat.le_refl _)
 have hlen2 := nv_blen hU
 have hcn0 : Ma.Cn 18446744073709551616 (Ma.tr l) (nv l) := Ma.Cn.of_tr hU.dg rfl
 have htl : (Ma.tr l).length ≤ l.length := (Ma.tr_take l).2.1
 refine Z03 (Z00 (Zg (Z01 (Z02 ?_))))
 refine Zk [0] ?_
 refine Z03 (Z00 (Zm ?_))
 refine Zc func262 (cloneN v l hU ZO w (H0.iarg hv)) ?_
 rintro vl0 w1 ⟨_, rfl, hG⟩
 have H1 := hG _ _ _ _ H0
 simp only [Zca, Zna] at H1
 refine Zg (Z01 (Z02 ?_))
 refine Zk [3] ?_
 refine Z03 (Z03 (Z00 (Zm ?_)))
 refine Z0u rfl rfl underlying155 rfl (by first | exact H1.io mem0 | exact H1.iarg hv | assumption) ?_
 refine Ze ?_
 refine Z01 (Z02 ?_)
 refine Zk [3, 14] ?_
 (first | refine Z0c rfl ?_ ?_ | refine Z08 rfl ?_ ?_) <;> intro hc0
 ·refine Z03 (Z00 (Zg (Z01 (Z02 ?_))))
  refine Zk [2] ?_
  refine Z0i ?_
  refine Z07 ?_
  refine Z0e results246 rfl ?_
  refine ⟨_, rfl, ?_⟩
  have H2 := St.del .head H1
  have h0 : nv l = 0 := (hcn0.nil_iff ZO).1 (List.eq_nil_of_length_eq_zero ZO)
  exact ⟨by unfold dtx; rw [if_pos h0], H2.grows⟩
 refine Z0a (Z02 ?_)
 refine Zk [3] ?_
 refine Z03 (Z00 (Zg (Z01 (Z02 (Z03 (Z0d ?_))))))
 refine Z0z (ι := Int × List Int × Value × List UInt8 × Value) (fun (z0 : Int × List Int × Value × List UInt8 × Value) => match z0 with | ⟨m, lm, vl, bk, vb⟩ => m.toNat) (fun (z0 : Int × List Int × Value × List UInt8 × Value) (w' : World) => match z0 with | ⟨m, lm, vl, bk, vb⟩ => St w w.heap.size Z0J ([As.rb 5 vb bk, As.ri 24 .u64 vl lm]) w' ∧ Ma.Cn 18446744073709551616 lm m ∧ lm.length ≤ 65536 ∧ 0 ≤ m ∧ dt0 (nv l).toNat = dt0 m.toNat ++ bk.reverse) (fun (z0 : Int × List Int × Value × List UInt8 × Value) => match z0 with | ⟨m, lm, vl, bk, vb⟩ => [(3, vl), (4, vb)]) [] (nv l, Ma.tr l, vl0, [], .slice none 0 0) ?_ .nil ?_ ?_
 ·exact ⟨H1.nil 5, hcn0, ZO, hU.nv_nonneg, by simp⟩
 ·exact (.cons rfl ZN (.cons rfl ZN .nil))
 rintro ⟨m, lm, vl, bk, vb⟩ w3 ⟨H3, hcn, hLm, hm0, hdt⟩
 show RunC P _ _ _ (_ :: _) _
 refine Z03 (Z03 (Z00 (Zm ?_)))
 refine Z0u rfl rfl underlying155 rfl (by first | exact H3.io mem0 | exact H3.io mem1 | exact H3.iarg hv | assumption) ?_
 refine Zw ?_
 refine Z01 (Z02 ?_)
 refine Zk [3, 4, 17] ?_
 (first | refine Z0c rfl ?_ ?_ | refine Z08 rfl ?_ ?_) <;> intro hc1
 ·refine Z0a (Z02 ?_)
  refine Zk [3, 4] ?_
  refine Z0d (Z03 (Z00 ?_))
  have hmp : 0 < m := by
   rcases Int.lt_or_eq_of_le hm0 with h | h
   ·exact h
   have := (hcn.nil_iff ZO).2 h.symm
   subst this
   simp at hc1
  refine Zg (Z01 (Z02 (Z03 (Z03 (Z00 (Zm ?_))))))
  refine Z0u rfl rfl underlying155 rfl (by first | exact H3.io mem0 | exact H3.io mem1 | exact H3.iarg hv | assumption) ?_
  refine Z0W rfl rfl rfl rfl (Z0l ZO) ?_
  refine Zg (Z01 (Z02 ?_))
  refine Zk [3, 4, 5, 6] ?_
  refine Z0d ?_
  refine Z0z (ι := Nat × List Int × Int) (fun (z0 : Nat × List Int × Int) => match z0 with | ⟨k, o, q⟩ => k) (fun (z0 : Nat × List Int × Int) (w' : World) => match z0 with | ⟨k, o, q⟩ => St w w.heap.size Z0J ([As.rb 5 vb bk, As.ri 24 .u64 vl o]) w' ∧ k ≤ lm.length ∧ o.length = lm.length ∧ U o ∧ 0 ≤ q ∧ q < 10000000000000000000 ∧ (∀ j, j < k → o.getD j 0 = lm.getD j 0) ∧ nv (o.drop k) * 10000000000000000000 + q = nv (lm.drop k)) (fun (z0 : Nat × List Int × Int) => match z0 with | ⟨k, o, q⟩ => [(5, .int .u64 q), (6, .int .i64 ((k : Int) - 1))]) [3, 4] (lm.length, lm, 0) ?_ (.cons rfl (.cons rfl .nil)) ?_ ?_
  ·exact ⟨H3, Nat.le_refl _, rfl, U.of_dg hcn.dg, ZO, ZO, fun _ _ => rfl, by rw [List.drop_length]; simp [Ma.vb]⟩
  ·exact (.cons rfl ZN (.cons rfl ZN .nil))
  rintro ⟨k, o, q⟩ w4 ⟨H4, hk, hol, hUo, hq0, hq1, hlow, hval⟩
  show RunC P _ _ _ (_ :: _) _
  refine Z03 (Z03 (Z00 (Zm ?_)))
  refine Zh ?_
  refine Z01 (Z02 ?_)
  refine Zk [3, 4, 5, 6, 22] ?_
  (first | refine Z0c rfl ?_ ?_ | refine Z08 rfl ?_ ?_) <;> intro hc2
  ·refine Z0a (Z02 ?_)
   refine Zk [3, 4, 5, 6] ?_
   refine Z03 (Z0d (Z00 ?_))
   have hlk := hlow (k - 1)
   refine Zm (Zm (Zm (Zm (Zm ?_))))
   refine Z0T (j := k - 1) rfl rfl rfl rfl underlying155 tz24 underlying24 rfl rfl (by first | exact H4.io mem0 | exact H4.io mem1 | exact H4.iarg hv | assumption) ZA rfl ZO ZI (fun hb10_5 => ?_)
   refine Z0I rfl rfl func272 rfl rfl (.cons rfl (.cons rfl (.cons rfl .nil))) (div64 _ _ _ ⟨hq0, hq1⟩ ZA ZO w4) ?_
   rintro _ w5 ⟨rfl, hG⟩
   have H5 := hG _ _ _ _ H4
   simp only [Zca, Zna] at H5
   refine Zm ?_
   refine Zx (Zx ?_)
   refine Z2o (j := k - 1) rfl rfl underlying155 tz24 rfl rfl (by first | exact H5.io mem0 | exact H5.io mem1 | exact H5.iarg hv | assumption) ZO ZI (fun A10_11 c10_11 hA10_11 => ?_)
   refine Z1w H5 (.tail .head) hA10_11 rfl tz24 rfl rfl ZI (fun w6 H6 => ?_)
   refine Zg (Z01 ?_)
   refine Z0F ?_
   refine Z02 ?_
   refine Zk [3, 4, 5, 6] ?_
   refine Z00 (Zm ?_)
   refine Z0W rfl rfl rfl rfl (Z0l ZO) ?_
   refine Zg (Z01 ?_)
   refine Z0p (i := (k, o, q)) (k - 1, o.set (k - 1) ((q * 18446744073709551616 + o.getD (k - 1) 0) / 10000000000000000000), (q * 18446744073709551616 + o.getD (k - 1) 0) % 10000000000000000000) ?_ ?_ (.cons rfl (.cons rfl .nil)) ?_
   ·first | omega | (simp; omega)
   ·refine ⟨H6, ZO, by simpa using hol, hUo.set ZO _, ZO, ZO, fun j hj => by rw [Z17 _ ZO]; exact hlow j ZO, ?_⟩
    have h1 := Ma.vb_drop 18446744073709551616 (l := lm) (k := k - 1) ZO
    have h2 := Ma.vb_drop 18446744073709551616 (l := o.set (k - 1) ((q * 18446744073709551616 + o.getD (k - 1) 0) / 10000000000000000000)) (k := k - 1) (by simp; omega)
    rw [show k - 1 + 1 = k from by omega] at h1 h2
    have hds : (o.set (k - 1) ((q * 18446744073709551616 + o.getD (k - 1) 0) / 10000000000000000000)).drop k = o.drop k := List.drop_set_of_lt ZO
    rw [hds, Z3w _ _ _ _ _ ZO, if_pos rfl] at h2
    show Ma.vb _ _ * _ + _ = Ma.vb _ _
    rw [h1, h2, ← hlow (k - 1) ZO]
    exact Ma.quo_step ZO ZO hval
   exact (.cons rfl ZN (.cons rfl ZN .nil))
  refine Z0H ?_
  refine Z06 ?_
  refine Z06 ?_
  refine Z0h ?_
  refine Z02 ?_
  refine Zk [3, 4, 5] ?_
  refine Z03 (Z00 ?_)
  obtain rfl : k = 0 := by omega
  simp only [List.drop_zero] at hval
  have hd := div_of (n := m) (y := 10000000000000000000) (Q := nv o) (r := q) (by rw [hval]; exact hcn.val.symm) hq0 hq1
  have hcn2 : Ma.Cn 18446744073709551616 (Ma.tr o) (m / 10000000000000000000) := by rw [hd.1]; exact Ma.Cn.of_tr hUo.dg rfl
  have hto : (Ma.tr o).length ≤ o.length := (Ma.tr_take o).2.1
  refine Zm ?_
  refine Zc func264 (Z2U hUo ZO (H4.io mem1)) ?_
  rintro vl2 w7 ⟨_, rfl, hT⟩
  have H7 := hT _ _ _ _ _ (.tail .head) H4
  refine Zg (Z01 (Z02 ?_))
  refine Zk [3, 4, 5] ?_
  refine Z03 (Z00 (Zg (Z01 (Z02 (Z0d ?_)))))
  refine Z0z (ι := Nat × Int × List UInt8 × Value) (fun (z0 : Nat × Int × List UInt8 × Value) => match z0 with | ⟨i, rr, bk2, vb2⟩ => 19 - i) (fun (z0 : Nat × Int × List UInt8 × Value) (w' : World) => match z0 with | ⟨i, rr, bk2, vb2⟩ => St w w.heap.size Z0J ([As.rb 5 vb2 bk2, As.ri 24 .u64 vl2 (Ma.tr o)]) w' ∧ i ≤ 19 ∧ 0 ≤ rr ∧ rr < 10 ^ (19 - i) ∧ rr < 10000000000000000000 ∧ dt0 (nv l).toNat = dt0 (m / 10000000000000000000 * 10 ^ (19 - i) + rr).toNat ++ bk2.reverse) (fun (z0 : Nat × Int × List UInt8 × Value) => match z0 with | ⟨i, rr, bk2, vb2⟩ => [(4, vb2), (5, .int .u64 rr), (7, .int .i64 (i : Int))]) [3] (0, q, bk, vb) ?_ (.cons rfl .nil) ?_ ?_
  ·refine ⟨H7, ZO, hq0, by rw [Nat.sub_zero, ten19]; exact hq1, hq1, ?_⟩
   rw [hdt, Nat.sub_zero, ten19, show m / 10000000000000000000 * 10000000000000000000 + q = m from by omega]
  ·exact (.cons rfl ZN (.cons rfl ZN (.cons rfl ZN .nil)))
  rintro ⟨i, rr, bk2, vb2⟩ w8 ⟨H8, hi, hr0, hr1, hr2, hdt2⟩
  show RunC P _ _ _ (_ :: _) _
  refine Z03 (Z03 (Z00 (Zm ?_)))
  refine Zl ?_
  refine Zm ?_
  apply Z47 7 [3, 4, 5, 7] rfl rfl (.cons rfl (.cons rfl (.cons rfl (.cons rfl (.cons rfl .nil))))) rfl rfl (fun _ => rfl) rfl rfl rfl
  ·intro hg13_3
   refine Zm ?_
   refine Z0u rfl rfl underlying155 rfl (by first | exact H8.io mem0 | exact H8.io mem1 | exact H8.iarg hv | assumption) ?_
   refine Zw ?_
   refine Zm ?_
   apply l_or 2 [3, 4, 5, 7, 41] rfl rfl (.cons rfl (.cons rfl (.cons rfl (.cons rfl (.cons rfl (.cons rfl .nil)))))) rfl rfl (fun _ => rfl) rfl rfl rfl
   ·intro hg13_7
    refine Zm ?_
    refine Zw ?_
    refine Z01 ?_
    exact Z0O rfl (.cons rfl (ZF hg13_7) (.cons rfl rfl (.cons rfl rfl (.cons rfl rfl (.cons rfl rfl (.cons rfl rfl .nil))))))
   refine Z01 ?_
   exact Z0O rfl (.cons rfl (ZT hg13_3) (.cons rfl rfl (.cons rfl rfl (.cons rfl rfl (.cons rfl rfl .nil)))))
  refine Z01 (Z02 ?_)
  refine Zk [3, 4, 5, 7, 49] ?_
  (first | refine Z0c rfl ?_ ?_ | refine Z08 rfl ?_ ?_) <;> intro hc3
  ·refine Z0a (Z02 ?_)
   refine Zk [3, 4, 5, 7] ?_
   refine Z03 (Z0d (Z03 (Z00 ?_)))
   have hpos : 0 < m / 10000000000000000000 ∨ 0 < rr := by
    rcases hc3.2 with h | h
    ·refine .inl ?_
     rcases Int.lt_or_le 0 (m / 10000000000000000000) with h' | h'
     ·exact h'
     have := (hcn2.nil_iff ZO).2 ZO
     rw [this] at h
     simp at h
    exact .inr h
   have hbl := congrArg List.length hdt2
   rw [List.length_append, List.length_reverse] at hbl
   refine Zm (Zm ?_)
   refine Z2e rfl rfl rfl rfl ZO (Z2E ZO) ?_
   refine Z0y rfl rfl rfl rfl (Z1p ZO) ?_
   refine Z5a rfl rfl underlying24 underlying5 rfl (w_u8 ZO) ?_
   refine Z0j (s := 56) (v' := .int .u8 ((dig (rr % 10)).toNat : Int)) rfl (by rw [Z6D ZO]) ?_
   refine Z2g H8 rfl rfl underlying25 ti5 rfl (.cons rfl ZR .nil) rfl rfl rfl (fun b15_5 w9 H9 => ?_)
   refine Z46 H9 rfl rfl underlying25 ti5 rfl rfl rfl rfl (by first | (simp [Value.oneCell']; done) | (intro u hu; rw [List.mem_singleton.1 hu]; assumption)) (by first | (simp; done) | (simp; omega)) (by first | (simp; done) | (simp; omega)) (fun v15_6 w10 H10 => ?_)
   refine Zg (Z01 (Z02 ?_))
   refine Zk [3, 4, 5, 7] ?_
   refine Z00 (Zm ?_)
   refine Z2D rfl rfl rfl rfl ZO (Z78 ZO) ?_
   refine Zg (Z01 ?_)
   refine Z0F ?_
   refine Z02 ?_
   refine Zk [3, 4, 5, 7] ?_
   refine Z00 (Zm ?_)
   refine Z0y rfl rfl rfl rfl (Z0l ZO) ?_
   refine Zg (Z01 ?_)
   refine Z0p (i := (i, rr, bk2, vb2)) (i + 1, rr / 10, bk2 ++ [dig (rr % 10)], v15_6) ?_ ?_ (.cons rfl .nil) ?_
   ·first | omega | (simp; omega)
   ·refine ⟨H10.cast (by rw [bys_snoc]), ZO, ZO, ?_, ZO, ?_⟩
    ·rw [show 19 - i = 19 - (i + 1) + 1 from by omega, Int.pow_succ] at hr1
     omega
    rw [hdt2, dt0_piece ZO ZO hr0 hpos]
    simp
   exact (.cons rfl ZN (.cons rfl ZN (.cons rfl ZN .nil)))
  refine Z0H ?_
  refine Z06 ?_
  refine Z06 ?_
  refine Z0h ?_
  refine Z0F ?_
  refine Z0p (i := (m, lm, vl, bk, vb)) (m / 10000000000000000000, Ma.tr o, vl2, bk2, vb2) ?_ ?_ .nil ?_
  ·first | omega | (simp; omega)
  ·refine ⟨H8, hcn2, ZO, ZO, ?_⟩
   rcases Nat.lt_or_ge i 19 with h | h
   ·have hz : (Ma.tr o).length = 0 := by omega
    have hM0 : m / 10000000000000000000 = 0 := (hcn2.nil_iff ZO).1 (List.eq_nil_of_length_eq_zero hz)
    rw [hdt2, hM0, show rr = 0 from by omega]
    simp
   obtain rfl : i = 19 := by omega
   have hr0 : rr = 0 := by
    have : (10 : Int) ^ (19 - 19) = 1 := rfl
    omega
   rw [hdt2, hr0]
   simp
  exact (.cons rfl ZN (.cons rfl ZN .nil))
 refine Z0H ?_
 refine Z06 ?_
 refine Z06 ?_
 refine Z0h ?_
 refine Z02 ?_
 refine Zk [4] ?_
 refine Z03 (Z03 (Z00 ?_))
 have hbl := congrArg List.length hdt
 rw [List.length_append, List.length_reverse] at hbl
 refine Zm ?_
 refine Z4W rfl rfl underlying25 rfl (by first | exact H3.io mem0 | exact H3.io mem1 | exact H3.iarg hv | assumption) ?_
 refine Z0W rfl rfl rfl rfl (Z0l ZO) ?_
 refine Zg (Zg (Z01 (Z02 ?_)))
 refine Zk [4, 8, 9] ?_
 refine Z0d ?_
 refine Z0z (ι := Nat × List UInt8) (fun (z0 : Nat × List UInt8) => match z0 with | ⟨i, o⟩ => bk.length - i) (fun (z0 : Nat × List UInt8) (w' : World) => match z0 with | ⟨i, o⟩ => St w w.heap.size Z0J ([As.rb 5 vb o, As.ri 24 .u64 vl lm]) w' ∧ 2 * i ≤ bk.length ∧ o.length = bk.length ∧ ∀ k, k < bk.length → o.getD k 0 = if k < i ∨ bk.length - i ≤ k then bk.getD (bk.length - 1 - k) 0 else bk.getD k 0) (fun (z0 : Nat × List UInt8) => match z0 with | ⟨i, o⟩ => [(8, .int .i64 (i : Int)), (9, .int .i64 ((bk.length : Int) - 1 - i))]) [4] (0, bk) ?_ (.cons rfl .nil) ?_ ?_
 ·refine ⟨H3, ZO, rfl, fun k hk => by rw [if_neg ZO]⟩
 ·exact (.cons rfl ZN (.cons rfl ZN .nil))
 rintro ⟨i, o⟩ w11 ⟨H11, hi, hol, hrev⟩
 show RunC P _ _ _ (_ :: _) _
 refine Z03 (Z03 (Z00 (Zm (Zm ?_))))
 refine Zl ?_
 refine Z01 (Z02 ?_)
 refine Zk [4, 8, 9, 66] ?_
 (first | refine Z0c rfl ?_ ?_ | refine Z08 rfl ?_ ?_) <;> intro hc4
 ·refine Z0a (Z02 ?_)
  refine Zk [4, 8, 9] ?_
  refine Z03 (Z0d ?_)
  have H12 := H11.drewn
  obtain ⟨A20, c20, hv20⟩ := (H12.io mem0).lies (by simp; omega)
  refine Z1a (n := 16) [Zz,Zz,Zz,Zz,Zz,Zz,Zz,Zz,Zz,Zz,Zz,Zz,Zz,Zz,Zz,Zz] (fun wS => True) ZK rfl rfl ?_
  apply Zu (L' := [Zy,Zz,Zz,Zz,Zz,Zz,Zz,Zz,Zz,Zz,Zz,Zz,Zz,Zz,Zz,Zz]) 0 (trivial)
  ·intro wS sS
   refine Zm (Z01 ?_)
   exact Z04 rfl
  apply Zu (L' := [Zy,Zy,Zz,Zz,Zz,Zz,Zz,Zz,Zz,Zz,Zz,Zz,Zz,Zz,Zz,Zz]) 1 (trivial)
  ·intro wS sS
   refine Zm (Z01 ?_)
   exact Z04 rfl
  apply Zu (L' := [Zy,Zy,Zy,Zz,Zz,Zz,Zz,Zz,Zz,Zz,Zz,Zz,Zz,Zz,Zz,Zz]) 2 (trivial)
  ·intro wS sS
   refine Zm (Z01 ?_)
   exact Z04 rfl
  apply Zu (L' := [Zy,Zy,Zy,Zy,Zz,Zz,Zz,Zz,Zz,Zz,Zz,Zz,Zz,Zz,Zz,Zz]) 3 (trivial)
  ·intro wS sS
   refine Zm (Z01 ?_)
   exact Z04 rfl
  apply Zu (L' := [Zy,Zy,Zy,Zy,Zy,Zz,Zz,Zz,Zz,Zz,Zz,Zz,Zz,Zz,Zz,Zz]) 4 (trivial)
  ·intro wS sS
   refine Zm (Z01 ?_)
   exact Z04 rfl
  apply Zu (L' := [Zy,Zy,Zy,Zy,Zy,Zy,Zz,Zz,Zz,Zz,Zz,Zz,Zz,Zz,Zz,Zz]) 5 (trivial)
  ·intro wS sS
   refine Zm (Z01 ?_)
   exact Z04 rfl
  apply Zu (L' := [Zy,Zy,Zy,Zy,Zy,Zy,Zy,Zz,Zz,Zz,Zz,Zz,Zz,Zz,Zz,Zz]) 6 (trivial)
  ·intro wS sS
   refine Z1c (j := bk.length - 1 - i) rfl rfl underlying25 tz5 rfl rfl hv20 ZP ZI ?_
   refine Z01 ?_
   exact Z04 rfl
  apply Zu (L' := [Zy,Zy,Zy,Zy,Zy,Zy,Zy,Zz,Zy,Zz,Zz,Zz,Zz,Zz,Zz,Zz]) 8 (trivial)
  ·intro wS sS
   refine Zm (Z01 ?_)
   exact Z04 rfl
  apply Zu (L' := [Zy,Zy,Zy,Zy,Zy,Zy,Zy,Zz,Zy,Zy,Zz,Zz,Zz,Zz,Zz,Zz]) 9 (trivial)
  ·intro wS sS
   refine Zm (Z01 ?_)
   exact Z04 rfl
  apply Zu (L' := [Zy,Zy,Zy,Zy,Zy,Zy,Zy,Zz,Zy,Zy,Zy,Zz,Zz,Zz,Zz,Zz]) 10 (trivial)
  ·intro wS sS
   refine Z1c (j := i) rfl rfl underlying25 tz5 rfl rfl hv20 ZP ZI ?_
   refine Z01 ?_
   exact Z04 rfl
  refine Z2B (L' := [Zy,Zy,Zy,Zy,Zy,Zy,Zy,Zy,Zy,Zy,Zy,Zz,Zz,Zz,Zz,Zz]) (L'' := [Zy,Zy,Zy,Zy,Zy,Zy,Zy,Zz,Zy,Zy,Zy,Zy,Zz,Zz,Zz,Zz]) 7 11 ZK rfl rfl rfl rfl ?_ ?_
  ·refine Z75 rfl rfl underlying5 rfl hv20 (by first | exact H12.io mem0 | exact H12.io mem1 | exact H12.iarg hv | assumption) ZI (fun hb20_7 => ?_)
   refine Z01 ?_
   refine Z0n (trivial) ?_
   refine Z0v (L' := [Zy,Zy,Zy,Zy,Zy,Zy,Zy,Zy,Zy,Zy,Zy,Zy,Zz,Zz,Zz,Zz]) 11 ZK rfl rfl ?_
   refine Z75 rfl rfl underlying5 rfl hv20 (by first | exact H12.io mem0 | exact H12.io mem1 | exact H12.iarg hv | assumption) ZI (fun hb20_11 => ?_)
   refine Z01 ?_
   refine Z0n (trivial) ?_
   apply Zu (L' := [Zy,Zy,Zy,Zy,Zy,Zy,Zy,Zy,Zy,Zy,Zy,Zy,Zy,Zz,Zz,Zz]) 12 (trivial)
   ·intro wS sS
    refine Z1c (j := i) rfl rfl underlying25 tz5 rfl rfl hv20 ZP ZI ?_
    refine Z01 ?_
    exact Z04 rfl
   refine Z0v (L' := [Zy,Zy,Zy,Zy,Zy,Zy,Zy,Zy,Zy,Zy,Zy,Zy,Zy,Zy,Zz,Zz]) 13 ZK rfl rfl ?_
   refine Z69 H12 .head hv20 ZB rfl tz5 rfl rfl (rfl) ZI (fun w13 H13 => ?_)
   refine Z01 ?_
   refine Z0n (trivial) ?_
   apply Zu (L' := [Zy,Zy,Zy,Zy,Zy,Zy,Zy,Zy,Zy,Zy,Zy,Zy,Zy,Zy,Zy,Zz]) 14 (trivial)
   ·intro wS sS
    refine Z1c (j := bk.length - 1 - i) rfl rfl underlying25 tz5 rfl rfl hv20 ZP ZI ?_
    refine Z01 ?_
    exact Z04 rfl
   refine Z0v (L' := [Zy,Zy,Zy,Zy,Zy,Zy,Zy,Zy,Zy,Zy,Zy,Zy,Zy,Zy,Zy,Zy]) 15 ZK rfl rfl ?_
   refine Z69 H13 .head hv20 ZB rfl tz5 rfl rfl (rfl) ZI (fun w14 H14 => ?_)
   refine Z01 ?_
   refine Z0n (trivial) ?_
   refine Z0B ZK ?_
   refine Z0F ?_
   refine Z02 ?_
   refine Zk [4, 8, 9] ?_
   refine Z00 (Zm ?_)
   refine Z0y rfl rfl rfl rfl (Z0l ZO) ?_
   refine Zm ?_
   refine Z0W rfl rfl rfl rfl (Z0l ZO) ?_
   refine Zg (Zg (Z01 ?_))
   refine Z0p (i := (i, o)) (i + 1, (o.set i (o.getD (bk.length - 1 - i) 0)).set (bk.length - 1 - i) (o.getD i 0)) ?_ ?_ (.cons rfl .nil) ?_
   ·first | omega | (simp; omega)
   ·refine ⟨H14, ZO, by simpa using hol, fun k hk => ?_⟩
    rw [Z3w _ _ _ _ _ (by simp; omega), Z3w _ _ _ _ _ ZO]
    by_cases e1 : bk.length - 1 - i = k
    ·rw [if_pos e1, if_pos ZO, hrev i ZO, if_neg ZO, show bk.length - 1 - k = i from by omega]
    rw [if_neg e1]
    by_cases e2 : i = k
    ·rw [if_pos e2, if_pos ZO, hrev (bk.length - 1 - i) ZO, if_neg ZO, e2]
    rw [if_neg e2, hrev k hk]
    by_cases e3 : k < i ∨ bk.length - i ≤ k
    ·rw [if_pos e3, if_pos ZO]
    rw [if_neg e3, if_neg ZO]
   exact (.cons rfl ZN (.cons rfl ZN .nil))
  refine Z75 rfl rfl underlying5 rfl hv20 (by first | exact H12.io mem0 | exact H12.io mem1 | exact H12.iarg hv | assumption) ZI (fun hb20_11 => ?_)
  refine Z01 ?_
  refine Z0n (trivial) ?_
  refine Z0v (L' := [Zy,Zy,Zy,Zy,Zy,Zy,Zy,Zy,Zy,Zy,Zy,Zy,Zz,Zz,Zz,Zz]) 7 ZK rfl rfl ?_
  refine Z75 rfl rfl underlying5 rfl hv20 (by first | exact H12.io mem0 | exact H12.io mem1 | exact H12.iarg hv | assumption) ZI (fun hb20_7 => ?_)
  refine Z01 ?_
  refine Z0n (trivial) ?_
  apply Zu (L' := [Zy,Zy,Zy,Zy,Zy,Zy,Zy,Zy,Zy,Zy,Zy,Zy,Zy,Zz,Zz,Zz]) 12 (trivial)
  ·intro wS sS
   refine Z1c (j := i) rfl rfl underlying25 tz5 rfl rfl hv20 ZP ZI ?_
   refine Z01 ?_
   exact Z04 rfl
  refine Z0v (L' := [Zy,Zy,Zy,Zy,Zy,Zy,Zy,Zy,Zy,Zy,Zy,Zy,Zy,Zy,Zz,Zz]) 13 ZK rfl rfl ?_
  refine Z69 H12 .head hv20 ZB rfl tz5 rfl rfl (rfl) ZI (fun w15 H15 => ?_)
  refine Z01 ?_
  refine Z0n (trivial) ?_
  apply Zu (L' := [Zy,Zy,Zy,Zy,Zy,Zy,Zy,Zy,Zy,Zy,Zy,Zy,Zy,Zy,Zy,Zz]) 14 (trivial)
  ·intro wS sS
   refine Z1c (j := bk.length - 1 - i) rfl rfl underlying25 tz5 rfl rfl hv20 ZP ZI ?_
   refine Z01 ?_
   exact Z04 rfl
  refine Z0v (L' := [Zy,Zy,Zy,Zy,Zy,Zy,Zy,Zy,Zy,Zy,Zy,Zy,Zy,Zy,Zy,Zy]) 15 ZK rfl rfl ?_
  refine Z69 H15 .head hv20 ZB rfl tz5 rfl rfl (rfl) ZI (fun w16 H16 => ?_)
  refine Z01 ?_
  refine Z0n (trivial) ?_
  refine Z0B ZK ?_
  refine Z0F ?_
  refine Z02 ?_
  refine Zk [4, 8, 9] ?_
  refine Z00 (Zm ?_)
  refine Z0y rfl rfl rfl rfl (Z0l ZO) ?_
  refine Zm ?_
  refine Z0W rfl rfl rfl rfl (Z0l ZO) ?_
  refine Zg (Zg (Z01 ?_))
  refine Z0p (i := (i, o)) (i + 1, (o.set i (o.getD (bk.length - 1 - i) 0)).set (bk.length - 1 - i) (o.getD i 0)) ?_ ?_ (.cons rfl .nil) ?_
  ·first | omega | (simp; omega)
  ·refine ⟨H16, ZO, by simpa using hol, fun k hk => ?_⟩
   rw [Z3w _ _ _ _ _ (by simp; omega), Z3w _ _ _ _ _ ZO]
   by_cases e1 : bk.length - 1 - i = k
   ·rw [if_pos e1, if_pos ZO, hrev i ZO, if_neg ZO, show bk.length - 1 - k = i from by omega]
   rw [if_neg e1]
   by_cases e2 : i = k
   ·rw [if_pos e2, if_pos ZO, hrev (bk.length - 1 - i) ZO, if_neg ZO, e2]
   rw [if_neg e2, hrev k hk]
   by_cases e3 : k < i ∨ bk.length - i ≤ k
   ·rw [if_pos e3, if_pos ZO]
   rw [if_neg e3, if_neg ZO]
  exact (.cons rfl ZN (.cons rfl ZN .nil))
 refine Z0H ?_
 refine Z06 ?_
 refine Z06 ?_
 refine Z0h ?_
 refine Z02 ?_
 refine Zk [4] ?_
 refine Z03 (Z00 (Zm ?_))
 refine Z6k rfl rfl underlying25 underlying5 underlying9 rfl (by first | exact H11.io mem0 | exact H11.io mem1 | exact H11.iarg hv | assumption) ?_
 refine Zg (Z01 (Z02 ?_))
 refine Zk [2] ?_
 refine Z0i ?_
 refine Z0e results246 rfl ?_
 refine ⟨_, rfl, ?_⟩
 have H18 := St.del .head (St.del (.tail .head) H11)
 have hm : m = 0 := (hcn.nil_iff ZO).1 (List.eq_nil_of_length_eq_zero ZO)
 have hl0 : 0 < (Ma.tr l).length := by omega
 have hne : nv l ≠ 0 := fun h => by
  have := (hcn0.nil_iff ZO).2 h
  rw [this] at hl0
  simp at hl0
 subst hm
 rw [show (0 : Int).toNat = 0 from rfl, Z6a, List.nil_append] at hdt
 have ho : o = bk.reverse := rev_of hol fun k hk => by
  rw [hrev k hk]
  by_cases e : k < i ∨ bk.length - i ≤ k
  ·rw [if_pos e]
  rw [if_neg e, show bk.length - 1 - k = k from by omega]
 exact ⟨by unfold dtx; rw [if_neg hne, ho, hdt], H18.grows⟩
def powS (b n : Int) : Int × Int := if n < 0 then (23, 0) else if 8192 < Ma.blen (b ^ n.toNat) then (21, 0) else (0, b ^ n.toNat)
theorem powS_neg {b n : Int} (h : n < 0) : powS b n = (23, 0) := if_pos h
theorem powS_long {b n : Int} (h : ¬ n < 0) (hl : 8192 < Ma.blen (b ^ n.toNat)) : powS b n = (21, 0) := by unfold powS; rw [if_neg h, if_pos hl]
theorem Z4P {b n : Int} (h : ¬ n < 0) (hl : Ma.blen (b ^ n.toNat) ≤ 8192) : powS b n = (0, b ^ n.toNat) := by unfold powS; rw [if_neg h, if_neg (by omega)]
theorem pow_mono_b {b : Int} (hb : 1 ≤ b) {m n : Nat} (h : m ≤ n) : b ^ m ≤ b ^ n := Ma.pow_mono hb h
theorem pow_big {b : Int} (hb : 2 ≤ b) {n : Nat} (h : 8192 < n) : 8192 < Ma.blen (b ^ n) := by
 rcases Int.lt_or_le 8192 (Ma.blen (b ^ n)) with h1 | h1
 ·exact h1
 exfalso
 have hp := Ma.pow_pos (show 0 < b by omega) n
 have h2 := (Ma.blen_le_iff (n := b ^ n) ZO 8192).1 h1
 have h3 : (2 : Int) ^ n ≤ b ^ n := by
  clear h1 h2 hp h
  induction n with
  | zero => simp
  | succ n ih =>
   rw [Int.pow_succ, Int.pow_succ]
   have := Ma.pow_pos (show (0 : Int) < 2 by omega) n
   exact Int.mul_le_mul ih hb ZO ZO
 have h4 := Ma.pow_mono (show (1 : Int) ≤ 2 by omega) (show 8193 ≤ n by omega)
 have h5 : (2 : Int) ^ 8193 = 2 ^ 8192 * 2 := Int.pow_succ 2 8192
 have := Ma.pow_pos (show (0 : Int) < 2 by omega) 8192
 omega
theorem and_one {m : Int} (h : 0 ≤ m ∧ m ≤ 9223372036854775807) : bitw .and .i64 m 1 = m % 2 := by
 obtain ⟨n, rfl⟩ := Int.eq_ofNat_of_zero_le h.1
 have e : (BitVec.ofInt IntKind.i64.bits (n : Int) &&& BitVec.ofInt IntKind.i64.bits 1).toNat = n % 2 := by
  show (BitVec.ofInt 64 (n : Int) &&& BitVec.ofInt 64 1).toNat = _
  rw [BitVec.toNat_and, Z1D ZO, Z1D ZO, Int.toNat_natCast]
  exact Nat.and_one_is_mod n
 show IntKind.i64.wrap _ = _
 rw [e, Z0l ZO]
 omega
theorem Z3x {l : List Int} {n : Int} (h : Ma.Cn 18446744073709551616 l n) {k : Nat} (hb : Ma.blen n ≤ k) : 64 * l.length ≤ k + 64 := by
 rcases Nat.eq_zero_or_pos l.length with h0 | h0
 ·omega
 have := Ma.blen_top (s := 64) h.dg h.tr h0
 rw [show ((2 : Int) ^ 64) = 18446744073709551616 from rfl, h.val] at this
 have := Ma.blen_nonneg (l.getD (l.length - 1) 0)
 omega
theorem half_pow (b : Int) (n k : Nat) (hk : 0 < k) : b ^ (n / 2 ^ (k - 1)) = b ^ (n / 2 ^ k) * b ^ (n / 2 ^ k) * (if n / 2 ^ (k - 1) % 2 = 1 then b else 1) := by
 obtain ⟨j, rfl⟩ : ∃ j, k = j + 1 := ⟨k - 1, ZO⟩
 have e : n / 2 ^ (j + 1) = n / 2 ^ j / 2 := by rw [Nat.pow_succ, Nat.div_div_eq_div_mul]
 show b ^ (n / 2 ^ j) = b ^ (n / 2 ^ (j + 1)) * b ^ (n / 2 ^ (j + 1)) * (if n / 2 ^ j % 2 = 1 then b else 1)
 rw [e, ← Int.pow_add]
 clear e
 generalize n / 2 ^ j = m
 split
 ·rw [← Int.pow_succ]; congr 1; omega
 rw [Int.mul_one]; congr 1; omega
theorem lenU (x : Int) (hx : 0 ≤ x ∧ x ≤ 18446744073709551615) (w : World) :
  Z0f P 273 [.int .u64 x] w fun r w' => r = .int .i64 (Ma.blen x) ∧ w = w' := by
 refine Z0o func273 rfl ntmps273 rfl ?_
 refine Z03 (Z00 (Zg (Z01 (Z02 ?_))))
 refine Zk [0] ?_
 refine Z03 ?_
 (first | refine Z0c rfl ?_ ?_ | refine Z08 rfl ?_ ?_) <;> intro hc0
 ·exact absurd hc0 (by simp)
 refine Z0a (Z02 (Z03 (Z00 (Zm ?_))))
 refine Z13 rfl rfl func275 rfl rfl (.cons rfl .nil) (len64 _ hx _) ?_
 refine Zg (Z01 (Z02 ?_))
 refine Zk [2] ?_
 refine Z0i ?_
 refine Z0e results273 rfl ?_
 refine ⟨_, rfl, ?_⟩
 exact ⟨rfl, rfl⟩
theorem mulC {a b : Value} {la lb : List Int} {na nb : Int} (ha' : Ma.Cn 18446744073709551616 la na) (hb' : Ma.Cn 18446744073709551616 lb nb) (hla : Ma.blen na ≤ 8192) (hlb : Ma.blen nb ≤ 8192) {w : World} (ha : IV w a (ints .u64 la)) (hb : IV w b (ints .u64 lb)) :
  Z0f P 242 [a, b] w fun r w' => NatR w w' r (if 8192 < Ma.blen (na * nb) then 21 else 0) (if 8192 < Ma.blen (na * nb) then 0 else na * nb) := by
 have h1 := Z3x ha' (k := 8192) hla
 have h2 := Z3x hb' (k := 8192) hlb
 refine (mulN a b la lb (U.of_dg ha'.dg) (U.of_dg hb'.dg) ZO ZO w ha hb).mono ?_
 intro r w' h
 rw [show nv la = na from ha'.val, show nv lb = nb from hb'.val] at h
 by_cases hC : 8192 < Ma.blen (na * nb)
 ·rw [if_pos (.inr (.inr hC)), if_pos (.inr (.inr hC))] at h
  rw [if_pos hC, if_pos hC]
  exact h
 have hn : ¬ (8192 < Ma.blen na ∨ 8192 < Ma.blen nb ∨ 8192 < Ma.blen (na * nb)) := fun h => h.elim (fun h => by omega) fun h => h.elim (fun h => by omega) hC
 rw [if_neg hn, if_neg hn] at h
 rw [if_neg hC, if_neg hC]
 exact h
theorem powN (b n : Int) (hb : 0 ≤ b ∧ b ≤ 18446744073709551615) (hn : -9223372036854775808 ≤ n ∧ n ≤ 9223372036854775807) (w : World) :
  Z0f P 247 [.int .u64 b, .int .i64 n] w fun r w' => NatR w w' r (powS b n).1 (powS b n).2 := by
 refine Z0o func247 rfl ntmps247 rfl ?_
 have H0 := St.start w
 refine Z03 (Z00 (Zg (Zg (Z01 (Z02 ?_)))))
 refine Zk [0, 1] ?_
 refine Z03 (Z0d (Z03 (Z00 (Zm ?_))))
 refine Zl ?_
 refine Zg (Z01 (Z02 ?_))
 refine Zk [0, 1, 9] ?_
 (first | refine Z0c rfl ?_ ?_ | refine Z08 rfl ?_ ?_) <;> intro hc0
 ·refine Z03 (Z00 (Zg (Zg (Z01 (Z02 ?_)))))
  refine Zk [4, 5] ?_
  refine Z0i ?_
  refine Z0k ?_
  refine Z07 ?_
  refine Z0P results247 rfl rfl ?_
  refine ⟨_, rfl, ?_⟩
  rw [powS_neg hc0]
  exact ⟨_, _, rfl, Ma.Cn.nil, (H0.nil 24).grows⟩
 refine Z03 (Z00 (Zm ?_))
 refine Ze ?_
 refine Zg (Z01 (Z02 ?_))
 refine Zk [0, 1, 12] ?_
 (first | refine Z0c rfl ?_ ?_ | refine Z08 rfl ?_ ?_) <;> intro hc1
 ·refine Z03 (Z00 ?_)
  refine Zc func241 (ofN 1 ZO w) ?_
  rintro v1 w1 ⟨_, l1, rfl, hcn1, hG⟩
  have H1 := hG _ _ _ _ H0
  simp only [Zca, Zna] at H1
  refine Zg (Zg (Z01 (Z02 ?_)))
  refine Zk [4, 5] ?_
  refine Z0i ?_
  refine Z0k ?_
  refine Z07 ?_
  refine Z0P results247 rfl rfl ?_
  refine ⟨_, rfl, ?_⟩
  subst hc1
  have e : powS b 0 = (0, 1) := by rw [Z4P ZO (by simp; decide)]; simp
  rw [e]
  exact ⟨_, _, rfl, hcn1, H1.grows⟩
 refine Z03 (Z00 (Zm ?_))
 refine Zl ?_
 refine Zg (Z01 (Z02 ?_))
 refine Zk [0, 1, 16] ?_
 (first | refine Z0c rfl ?_ ?_ | refine Z08 rfl ?_ ?_) <;> intro hc2
 ·refine Z03 (Z00 (Zm ?_))
  refine Zc func241 (ofN b hb w) ?_
  rintro v1 w2 ⟨_, l1, rfl, hcn1, hG⟩
  have H2 := hG _ _ _ _ H0
  simp only [Zca, Zna] at H2
  refine Zg (Zg (Z01 (Z02 ?_)))
  refine Zk [4, 5] ?_
  refine Z0i ?_
  refine Z0k ?_
  refine Z07 ?_
  refine Z0P results247 rfl rfl ?_
  refine ⟨_, rfl, ?_⟩
  have hbp : b ^ n.toNat = b := by
   have hb01 : b = 0 ∨ b = 1 := by omega
   rcases hb01 with h | h
   ·subst h
    obtain ⟨m, hm⟩ : ∃ m, n.toNat = m + 1 := ⟨n.toNat - 1, ZO⟩
    rw [hm, Int.pow_succ, Int.mul_zero]
   subst h
   exact Int.one_pow
  have hbl : Ma.blen b ≤ 8192 := by
   have := (Ma.blen_le_iff (n := b) ZO 64).2 ZO
   omega
  rw [Z4P hc0 (by rw [hbp]; exact hbl), hbp]
  exact ⟨_, _, rfl, hcn1, H2.grows⟩
 refine Z03 (Z00 (Zm ?_))
 refine Zw ?_
 refine Zg (Z01 (Z02 ?_))
 refine Zk [0, 1, 21] ?_
 (first | refine Z0c rfl ?_ ?_ | refine Z08 rfl ?_ ?_) <;> intro hc3
 ·refine Z03 (Z00 (Zg (Zg (Z01 (Z02 ?_)))))
  refine Zk [4, 5] ?_
  refine Z0i ?_
  refine Z0k ?_
  refine Z07 ?_
  refine Z0P results247 rfl rfl ?_
  refine ⟨_, rfl, ?_⟩
  rw [powS_long hc0 (pow_big ZO ZO)]
  exact ⟨_, _, rfl, Ma.Cn.nil, (H0.nil 24).grows⟩
 refine Z0a ?_
 refine Z0F ?_
 refine Z02 ?_
 refine Zk [0, 1] ?_
 refine Z03 (Z00 ?_)
 refine Zc func241 (ofN 1 ZO w) ?_
 rintro v0 w3 ⟨_, l0, rfl, hcn0, hG⟩
 have H3 := hG _ _ _ _ H0
 simp only [Zca, Zna] at H3
 refine Zg (Zg (Z01 (Z02 ?_)))
 refine Zk [0, 1, 6, 7] ?_
 refine Z03 (Z03 (Z00 ?_))
 have hbn0 := Ma.blen_nonneg n
 have hbn1 := (Ma.blen_le_iff (n := n) ZO 14).2 ZO
 refine Zm ?_
 refine Z5a rfl rfl underlying3 underlying72 rfl (Z1p ZO) ?_
 refine Zp func273 (lenU n ZO _) ?_
 refine Z0W rfl rfl rfl rfl (Z0l ZO) ?_
 refine Zg (Z01 (Z02 ?_))
 refine Zk [0, 1, 6, 7, 8] ?_
 refine Z0d ?_
 refine Z0z (ι := Nat × Int × List Int × Value) (fun (z0 : Nat × Int × List Int × Value) => match z0 with | ⟨k, ex, o, vo⟩ => k) (fun (z0 : Nat × Int × List Int × Value) (w' : World) => match z0 with | ⟨k, ex, o, vo⟩ => St w w.heap.size Z0J ([As.ri 24 .u64 vo o]) w' ∧ k ≤ 14 ∧ ((ex = 0 ∧ Ma.Cn 18446744073709551616 o (b ^ (n.toNat / 2 ^ k)) ∧ Ma.blen (b ^ (n.toNat / 2 ^ k)) ≤ 8192) ∨ (ex = 21 ∧ Ma.Cn 18446744073709551616 o 0 ∧ 8192 < Ma.blen (b ^ n.toNat)))) (fun (z0 : Nat × Int × List Int × Value) => match z0 with | ⟨k, ex, o, vo⟩ => [(6, vo), (7, .int .i64 ex), (8, .int .i64 ((k : Int) - 1))]) [0, 1] ((Ma.blen n).toNat, 0, l0, v0) ?_ (.cons rfl (.cons rfl .nil)) ?_ ?_
 ·have hlt : n < 2 ^ (Ma.blen n).toNat := (Ma.blen_le_iff (n := n) ZO (Ma.blen n).toNat).1 ZO
  have hz : n.toNat / 2 ^ (Ma.blen n).toNat = 0 := Nat.div_eq_of_lt (by
   have : ((n.toNat : Nat) : Int) < ((2 ^ (Ma.blen n).toNat : Nat) : Int) := by rw [Int.natCast_pow, Int.toNat_of_nonneg ZO]; exact hlt
   exact Int.ofNat_lt.1 this)
  refine ⟨H3, ZO, .inl ⟨rfl, ?_, ?_⟩⟩
  ·rw [hz, Int.pow_zero]; exact hcn0
  rw [hz, Int.pow_zero]; decide
 ·exact (.cons rfl ZN (.cons rfl ZN (.cons rfl ZN .nil)))
 rintro ⟨k, ex, o, vo⟩ w4 ⟨H4, hk, hinv⟩
 show RunC P _ _ _ (_ :: _) _
 refine Z03 (Z03 (Z00 (Zm ?_)))
 refine Zh ?_
 refine Zm ?_
 apply Z47 2 [0, 1, 6, 7, 8] rfl rfl (.cons rfl (.cons rfl (.cons rfl (.cons rfl (.cons rfl (.cons rfl .nil)))))) rfl rfl (fun _ => rfl) rfl rfl rfl
 ·intro hg11_3
  refine Zm ?_
  refine Ze ?_
  refine Z01 ?_
  exact Z0O rfl (.cons rfl (ZT hg11_3) (.cons rfl rfl (.cons rfl rfl (.cons rfl rfl (.cons rfl rfl (.cons rfl rfl .nil))))))
 refine Z01 (Z02 ?_)
 refine Zk [0, 1, 6, 7, 8, 34] ?_
 (first | refine Z0c rfl ?_ ?_ | refine Z08 rfl ?_ ?_) <;> intro hc4
 ·refine Z0a (Z02 ?_)
  refine Zk [0, 1, 6, 8] ?_
  refine Z1q (ι := Int × List Int × Value) (fun (z0 : Int × List Int × Value) (w' : World) => match z0 with | ⟨ex2, o2, vo2⟩ => St w w.heap.size Z0J ([As.ri 24 .u64 vo2 o2]) w' ∧ ((ex2 = 0 ∧ Ma.Cn 18446744073709551616 o2 (b ^ (n.toNat / 2 ^ (k - 1))) ∧ Ma.blen (b ^ (n.toNat / 2 ^ (k - 1))) ≤ 8192) ∨ (ex2 = 21 ∧ Ma.Cn 18446744073709551616 o2 0 ∧ 8192 < Ma.blen (b ^ n.toNat)))) (fun (z0 : Int × List Int × Value) => match z0 with | ⟨ex2, o2, vo2⟩ => [(6, vo2), (7, .int .i64 ex2)]) [0, 1, 8] (.cons rfl (.cons rfl (.cons rfl .nil))) ?_ ?_
  ·refine Z0d (Z03 (Z00 ?_))
   have hcb2 : ex = 0 := hc4.2
   obtain ⟨hcn, hbl⟩ : Ma.Cn 18446744073709551616 o (b ^ (n.toNat / 2 ^ k)) ∧ Ma.blen (b ^ (n.toNat / 2 ^ k)) ≤ 8192 := by
    rcases hinv with h | h
    ·exact h.2
    omega
   have hsh : (2 : Int) ^ (min ((k : Int) - 1).toNat IntKind.i64.bits) = 2 ^ (k - 1) := by
    show (2 : Int) ^ (min ((k : Int) - 1).toNat 64) = _
    rw [show ((k : Int) - 1).toNat = k - 1 from by omega, Nat.min_eq_left ZO]
   have hp2 := Ma.pow_pos (show (0 : Int) < 2 by omega) (k - 1)
   have hnd : n / 2 ^ (k - 1) = ((n.toNat / 2 ^ (k - 1) : Nat) : Int) := by
    rw [Int.natCast_ediv, Int.toNat_of_nonneg ZO, Int.natCast_pow]; rfl
   have hnd1 : n.toNat / 2 ^ (k - 1) ≤ n.toNat := Nat.div_le_self _ _
   have hq0 : 0 ≤ n / 2 ^ (k - 1) := Int.ediv_nonneg ZO ZO
   have hq1 : n / 2 ^ (k - 1) ≤ n := Int.ediv_le_self _ ZO
   have hhalf := half_pow b n.toNat k ZO
   have hle : b ^ (n.toNat / 2 ^ (k - 1)) ≤ b ^ n.toNat := pow_mono_b ZO hnd1
   have hge : b ^ (n.toNat / 2 ^ k) * b ^ (n.toNat / 2 ^ k) ≤ b ^ (n.toNat / 2 ^ (k - 1)) := by
    have hpp := Ma.pow_pos (show 0 < b by omega) (n.toNat / 2 ^ k)
    have := Int.mul_pos hpp hpp
    rw [hhalf]
    split
    ·have := Int.mul_le_mul_of_nonneg_left (show 1 ≤ b by omega) (show 0 ≤ b ^ (n.toNat / 2 ^ k) * b ^ (n.toNat / 2 ^ k) by omega)
     rw [Int.mul_one] at this
     exact this
    omega
   have hpp := Ma.pow_pos (show 0 < b by omega) (n.toNat / 2 ^ k)
   have hpos := Int.mul_pos hpp hpp
   refine Zm (Zm ?_)
   refine Zc func242 (mulC hcn hcn hbl hbl (H4.io mem0) (H4.io mem0)) ?_
   rintro _ w5 ⟨vm, lm, rfl, hcm, hG⟩
   have H5 := hG _ _ _ _ H4
   simp only [Zca, Zna] at H5
   refine Zm ?_
   refine Zx (Zx (Zg (Zg (Z01 (Z02 ?_)))))
   refine Zk [0, 1, 6, 7, 8] ?_
   refine Z03 (Z00 (Zm ?_))
   refine Ze ?_
   refine Zm ?_
   apply Z47 5 [0, 1, 6, 7, 8] rfl rfl (.cons rfl (.cons rfl (.cons rfl (.cons rfl (.cons rfl (.cons rfl .nil)))))) rfl rfl (fun _ => rfl) rfl rfl rfl
   ·intro hg14_3
    refine Zm (Zm ?_)
    refine Z3e rfl rfl rfl rfl ZO (Z2b hsh ZO) ?_
    refine Z1i rfl rfl rfl rfl rfl (and_one ⟨hq0, Int.le_trans hq1 hn.2⟩) ?_
    refine Ze ?_
    refine Z01 ?_
    exact Z0O rfl (.cons rfl (ZT hg14_3) (.cons rfl rfl (.cons rfl rfl (.cons rfl rfl (.cons rfl rfl (.cons rfl rfl .nil))))))
   refine Z01 (Z02 ?_)
   refine Zk [0, 1, 6, 7, 8, 51] ?_
   (first | refine Z0c rfl ?_ ?_ | refine Z08 rfl ?_ ?_) <;> intro hc5
   ·refine Z00 ?_
    have hC : ¬ 8192 < Ma.blen (b ^ (n.toNat / 2 ^ k) * b ^ (n.toNat / 2 ^ k)) := fun h => by have := hc5.1; rw [if_pos h] at this; omega
    rw [if_neg hC] at hcm
    have hbm : Ma.blen (b ^ (n.toNat / 2 ^ k) * b ^ (n.toNat / 2 ^ k)) ≤ 8192 := by omega
    have hcb : Ma.Cn 18446744073709551616 [b] b := ⟨fun x hx => by rw [List.mem_singleton.1 hx]; omega, ⟨fun _ => by omega, trivial⟩, by simp [Ma.vb]⟩
    have hbb : Ma.blen b ≤ 8192 := by
     have := (Ma.blen_le_iff (n := b) ZO 64).2 ZO
     omega
    have hbit : n.toNat / 2 ^ (k - 1) % 2 = 1 := by have := hc5.2; rw [hnd] at this; omega
    rw [if_pos hbit] at hhalf
    refine Zm (Zm ?_)
    refine Z2g H5 rfl rfl underlying155 ti24 rfl (.cons rfl ZR .nil) rfl rfl rfl (fun b15_2 w6 H6 => ?_)
    refine Zc func242 (mulC hcm hcb hbm hbb (H6.io mem1) (H6.ibl mem0)) ?_
    rintro _ w7 ⟨vz, lz, rfl, hcz, hG⟩
    have H7 := hG _ _ _ _ H6
    simp only [Zca, Zna] at H7
    refine Zm ?_
    refine Zx (Zx (Zg (Zg (Z01 ?_))))
    refine Z0F ?_
    have H10 := St.del (.tail .head) (St.del (.tail (.tail .head)) (St.del (.tail (.tail (.tail .head))) H7))
    refine Z0w ((if 8192 < Ma.blen (b ^ (n.toNat / 2 ^ k) * b ^ (n.toNat / 2 ^ k) * b) then 21 else 0), lz, vz) ?_ (.cons rfl (.cons rfl (.cons rfl .nil))) ?_
    ·refine ⟨H10, ?_⟩
     by_cases hD : 8192 < Ma.blen (b ^ (n.toNat / 2 ^ k) * b ^ (n.toNat / 2 ^ k) * b)
     ·rw [if_pos hD] at hcz
      refine .inr ⟨if_pos hD, hcz, ?_⟩
      rw [← hhalf] at hD
      have := Ma.blen_mono (by rw [hhalf]; exact Int.mul_nonneg ZO ZO) hle
      omega
     rw [if_neg hD] at hcz
     refine .inl ⟨if_neg hD, ?_, ?_⟩
     ·rw [hhalf]; exact hcz
     rw [hhalf]; omega
    exact (.cons rfl ZN (.cons rfl ZN .nil))
   refine Z0a ?_
   refine Z0F ?_
   have H11 := St.del (.tail .head) H5
   refine Z0w ((if 8192 < Ma.blen (b ^ (n.toNat / 2 ^ k) * b ^ (n.toNat / 2 ^ k)) then 21 else 0), lm, vm) ?_ (.cons rfl (.cons rfl (.cons rfl .nil))) ?_
   ·refine ⟨H11, ?_⟩
    by_cases hD : 8192 < Ma.blen (b ^ (n.toNat / 2 ^ k) * b ^ (n.toNat / 2 ^ k))
    ·rw [if_pos hD] at hcm
     refine .inr ⟨if_pos hD, hcm, ?_⟩
     have := Ma.blen_mono ZO (Int.le_trans hge hle)
     omega
    rw [if_neg hD] at hcm
    have hbit : ¬ n.toNat / 2 ^ (k - 1) % 2 = 1 := fun h => hc5 ⟨if_neg hD, by rw [hnd]; omega⟩
    rw [if_neg hbit, Int.mul_one] at hhalf
    refine .inl ⟨if_neg hD, ?_, ?_⟩
    ·rw [hhalf]; exact hcm
    rw [hhalf]; omega
   exact (.cons rfl ZN (.cons rfl ZN .nil))
  rintro ⟨ex2, o2, vo2⟩ w12 ⟨H12, hinv2⟩
  show RunC P _ _ _ (_ :: _) _
  refine Z00 (Zm ?_)
  refine Z0W rfl rfl rfl rfl (Z0l ZO) ?_
  refine Zg (Z01 ?_)
  refine Z0p (i := (k, ex, o, vo)) (k - 1, ex2, o2, vo2) ?_ ?_ (.cons rfl (.cons rfl .nil)) ?_
  ·first | omega | (simp; omega)
  ·exact ⟨H12, ZO, hinv2⟩
  exact (.cons rfl ZN (.cons rfl ZN (.cons rfl ZN .nil)))
 refine Z0H ?_
 refine Z06 ?_
 refine Z06 ?_
 refine Z0h ?_
 refine Z02 ?_
 refine Zk [6, 7] ?_
 refine Z03 (Z00 (Zm (Zm (Zg (Zg (Z01 (Z02 ?_)))))))
 refine Zk [4, 5] ?_
 refine Z0i ?_
 refine Z0P results247 rfl rfl ?_
 refine ⟨_, rfl, ?_⟩
 rcases hinv with ⟨h1, h2, h3⟩ | ⟨h1, h2, h3⟩
 ·obtain rfl : k = 0 := by omega
  rw [Nat.pow_zero, Nat.div_one] at h2 h3
  rw [Z4P hc0 h3, h1]
  exact ⟨_, _, rfl, h2, H4.grows⟩
 rw [powS_long hc0 h3, h1]
 exact ⟨_, _, rfl, h2, H4.grows⟩
theorem U.two {x y : Int} (hx : 0 ≤ x ∧ x ≤ 18446744073709551615) (hy : 0 ≤ y ∧ y ≤ 18446744073709551615) : U [x, y] := fun z hz => by
 simp at hz
 rcases hz with rfl | rfl
 ·exact hx
 exact hy
theorem nv_two (x y : Int) : nv [x, y] = x + 18446744073709551616 * y := by simp [Ma.vb]
theorem fromN (hi lo : Int) (hhi : 0 ≤ hi ∧ hi ≤ 18446744073709551615) (hlo : 0 ≤ lo ∧ lo ≤ 18446744073709551615) (w : World) :
  Z0f P 237 [.agg #[.int .u64 hi, .int .u64 lo]] w fun r w' => ∃ v ls, r = v ∧ Ma.Cn 18446744073709551616 ls (lo + 18446744073709551616 * hi) ∧ Grow w w' [As.ri 24 .u64 v ls] := by
 refine Z0o func237 rfl ntmps237 rfl ?_
 have H0 := St.start w
 refine Z03 (Z00 ?_)
 refine Z57 H0 rfl rfl rfl (fun b0_0 w1 H1 => ?_)
 refine Zg (Z01 (Z02 ?_))
 refine Zk [1] ?_
 refine Z03 (Z00 (Z09 fo270_1 rfl rfl rfl ?_))
 refine Z05 H1 mem0 rfl rfl underlying24 rfl rfl rfl ?_
 refine Z09 fo270_0 rfl rfl rfl ?_
 refine Z05 H1 mem0 rfl rfl underlying24 rfl rfl rfl ?_
 refine Z2g H1 rfl rfl underlying155 ti24 rfl (.cons rfl ZR (.cons rfl ZR .nil)) rfl rfl rfl (fun b1_4 w2 H2 => ?_)
 refine Z0I rfl rfl func262 rfl rfl (.cons rfl .nil) (cloneN _ [lo, hi] (U.two hlo hhi) (by simp) w2 (H2.ibl mem0)) ?_
 rintro v' w3 ⟨_, rfl, hG⟩
 have H3 := hG _ _ _ _ H2
 simp only [Zca, Zna] at H3
 refine Zg (Z01 (Z02 ?_))
 refine Zk [2] ?_
 refine Z0i ?_
 refine Z0e results237 rfl ?_
 refine ⟨_, rfl, ?_⟩
 have H5 := St.del (.tail .head) (St.del (.tail (.tail .head)) H3)
 exact ⟨_, _, rfl, Ma.Cn.of_tr (U.two hlo hhi).dg (nv_two lo hi), H5.grows⟩
theorem or_comm' (a b : Int) : bitw .or .u64 a b = bitw .or .u64 b a := by
 show IntKind.u64.wrap _ = IntKind.u64.wrap _
 rw [BitVec.or_comm]
theorem Z3f {k : Nat} (hk : k ≤ 64) : (2 : Int) ^ (64 - k) * 2 ^ k = 18446744073709551616 := by rw [← Int.pow_add, show 64 - k + k = 64 from by omega]; rfl
theorem shl_low {x : Int} {k : Nat} (hk : k ≤ 64) : x * 2 ^ k % 18446744073709551616 = x % 2 ^ (64 - k) * 2 ^ k := by
 rw [← Z3f hk, Int.mul_comm x, Int.mul_comm (2 ^ (64 - k)), Int.mul_emod_mul_of_pos _ _ (Ma.pow_pos (by omega) k), Int.mul_comm]
theorem Z3I {x : Int} {k : Nat} (hk : k ≤ 64) : 0 ≤ x % 2 ^ (64 - k) ∧ x % 2 ^ (64 - k) * 2 ^ k + 2 ^ k ≤ 18446744073709551616 := by
 have hE := Ma.pow_pos (show (0 : Int) < 2 by omega) (64 - k)
 have hD := Ma.pow_pos (show (0 : Int) < 2 by omega) k
 have h1 := Int.emod_nonneg x (show (2 : Int) ^ (64 - k) ≠ 0 by omega)
 have h2 := Int.emod_lt_of_pos x hE
 have h3 : (x % 2 ^ (64 - k) + 1) * 2 ^ k ≤ 2 ^ (64 - k) * 2 ^ k := Int.mul_le_mul_of_nonneg_right ZO ZO
 rw [Z3f hk, Int.add_mul, Int.one_mul] at h3
 exact ⟨h1, h3⟩
theorem or_low {x b : Int} {k : Nat} (hk : k ≤ 64) (hb : 0 ≤ b ∧ b < 2 ^ k) : bitw .or .u64 b (x * 2 ^ k % 18446744073709551616) = b + x % 2 ^ (64 - k) * 2 ^ k := by
 have h := Z3I (x := x) hk
 have hD := Ma.pow_pos (show (0 : Int) < 2 by omega) k
 rw [shl_low hk, or_comm', or_add k hk ⟨h.1, ZO⟩ hb, Int.add_comm]
theorem Z4Q (n j : Nat) : (List.replicate n (0 : Int)).getD j 0 = 0 := by simp [List.getD, List.getElem?_replicate]; split <;> rfl
theorem shl_step {p V A x o : Int} {k : Nat} (hk : k ≤ 64) (h : V = p * 2 ^ k * A) (B : Int) : V + p * B * ((o + x % 2 ^ (64 - k) * 2 ^ k) - o) + p * B * 18446744073709551616 * (x / 2 ^ (64 - k)) = p * 2 ^ k * (A + B * x) := by
 have e := Int.emod_add_mul_ediv x (2 ^ (64 - k))
 have e2 : x % 2 ^ (64 - k) * 2 ^ k + 18446744073709551616 * (x / 2 ^ (64 - k)) = 2 ^ k * x := by
  rw [← Z3f hk, Int.mul_comm (2 ^ (64 - k)) (2 ^ k), Int.mul_assoc, Int.mul_comm (x % 2 ^ (64 - k)), ← Int.mul_add, e]
 have e3 : p * B * ((o + x % 2 ^ (64 - k) * 2 ^ k) - o) + p * B * 18446744073709551616 * (x / 2 ^ (64 - k)) = p * B * (2 ^ k * x) := by
  rw [show o + x % 2 ^ (64 - k) * 2 ^ k - o = x % 2 ^ (64 - k) * 2 ^ k from by omega, Int.mul_assoc (p * B), ← Int.mul_add, e2]
 rw [Int.add_assoc, e3, h, Int.mul_add]
 congr 1
 rw [Int.mul_assoc, Int.mul_assoc, Int.mul_left_comm B]
theorem set_top {l : List Int} (q i : Nat) (x y : Int) (hi : q + i + 1 < l.length) (hz : l.getD (q + i + 1) 0 = 0) : nv ((l.set (q + i) x).set (q + i + 1) y) = nv l + 18446744073709551616 ^ (q + i) * (x - l.getD (q + i) 0) + 18446744073709551616 ^ (q + i) * 18446744073709551616 * y := by
 show Ma.vb _ _ = _
 rw [Ma.vb_set_at _ _ _ _ (by simp; omega), Ma.vb_set_at _ _ _ _ (by omega), Z17 _ (by omega), hz, Int.sub_zero, Int.pow_succ]
theorem shlN (v : Value) (l : List Int) (hU : U l) (hL : l.length ≤ 68719476736) (N : Nat) (hN : N ≤ 1099511627776) (w : World) (hv : IV w v (ints .u64 l)) :
  Z0f P 274 [v, .int .i64 (N : Int)] w fun r w' => ∃ v ls, r = v ∧ U ls ∧ ls.length = l.length + N / 64 + 1 ∧ nv ls = nv l * 2 ^ N ∧ Grow w w' [As.ri 24 .u64 v ls] := by
 refine Z0o func274 rfl ntmps274 rfl ?_
 have H0 := St.start w
 have hs64 : N % 64 < 64 := Nat.mod_lt _ ZO
 have hD0 := Ma.pow_pos (show (0 : Int) < 2 by omega) (N % 64)
 have hE0 := Ma.pow_pos (show (0 : Int) < 2 by omega) (64 - N % 64)
 have hDk : (2 : Int) ^ (min ((N : Int) % 64).toNat IntKind.u64.bits) = 2 ^ (N % 64) := by
  show (2 : Int) ^ (min ((N : Int) % 64).toNat 64) = _
  rw [show ((N : Int) % 64).toNat = N % 64 from by omega, Nat.min_eq_left ZO]
 have hEk : (2 : Int) ^ (min (64 - (N : Int) % 64).toNat IntKind.u64.bits) = 2 ^ (64 - N % 64) := by
  show (2 : Int) ^ (min (64 - (N : Int) % 64).toNat 64) = _
  rw [show (64 - (N : Int) % 64).toNat = 64 - N % 64 from by omega, Nat.min_eq_left ZO]
 refine Z03 (Z00 (Zg (Z01 (Z02 ?_))))
 refine Zk [0, 1] ?_
 refine Z03 (Z00 (Zm ?_))
 refine Z0u rfl rfl underlying155 rfl (by first | exact H0.iarg hv | assumption) ?_
 refine Zm ?_
 refine Z2D rfl rfl rfl rfl ZO (Z35 ZO) ?_
 refine Z0y rfl rfl rfl rfl (Z0l ZO) ?_
 refine Z0y rfl rfl rfl rfl (Z0l ZO) ?_
 refine Z1A (m := l.length + N / 64 + 1) (c := l.length + N / 64 + 1) H0 rfl rfl underlying155 ti24 rfl rfl rfl ZO ZO ZO ZO ZO (fun v1_6 w1 H1 => ?_)
 refine Zg (Z01 (Z02 ?_))
 refine Zk [0, 1, 5] ?_
 refine Z03 (Z00 ?_)
 have hw1z := H1.cast (show [As.ro 24 v1_6 (List.replicate (l.length + N / 64 + 1) (Value.int IntKind.u64 0))] = [As.ri 24 .u64 v1_6 (List.replicate (l.length + N / 64 + 1) 0)] from by rw [Z14])
 refine Zm (Zm ?_)
 refine Z2D rfl rfl rfl rfl ZO (Z35 ZO) ?_
 refine Z4F (l := N / 64) (m := l.length + 1) (h := l.length + N / 64 + 1) rfl rfl underlying155 tz24 rfl rfl rfl rfl (by first | exact H1.io mem0 | exact H1.iarg hv | assumption) ZD ZD (.inl rfl) (by simp) ZO ZI ZO (fun A2_3 c2_3 d2_3 h2_3 hc2_3 => ?_)
 refine Zg (Z01 (Z02 ?_))
 refine Zk [0, 1, 5, 6] ?_
 refine Z03 (Z03 (Z00 (Zm ?_)))
 refine Z0u rfl rfl underlying155 rfl (by first | exact H1.io mem0 | exact H1.iarg hv | assumption) ?_
 refine Zm (Z01 (Z02 ?_))
 refine Zk [0, 1, 5, 6, 20, 21] ?_
 refine Z0d ?_
 refine Z0z (ι := Nat × List Int) (fun (z0 : Nat × List Int) => match z0 with | ⟨i, o⟩ => l.length - i) (fun (z0 : Nat × List Int) (w' : World) => match z0 with | ⟨i, o⟩ => St w w.heap.size Z0J ([As.ri 24 .u64 v1_6 o]) w' ∧ i ≤ l.length ∧ o.length = l.length + N / 64 + 1 ∧ U o ∧ nv o = 18446744073709551616 ^ (N / 64) * 2 ^ (N % 64) * nv (l.take i) ∧ o.getD (N / 64 + i) 0 < 2 ^ (N % 64) ∧ (∀ j, N / 64 + i < j → o.getD j 0 = 0)) (fun (z0 : Nat × List Int) => match z0 with | ⟨i, o⟩ => [(21, .int .i64 (i : Int))]) [0, 1, 5, 6, 20] (0, List.replicate (l.length + N / 64 + 1) 0) ?_ (.cons rfl (.cons rfl (.cons rfl (.cons rfl (.cons rfl .nil))))) ?_ ?_
 ·exact ⟨hw1z, ZO, by simp, U.zeros _, by simp [Ma.vb, Ma.vb_zeros], by rw [Z4Q]; exact hD0, fun j hj => Z4Q _ _⟩
 ·exact (.cons rfl ZN .nil)
 rintro ⟨i, o⟩ w2 ⟨H2, hi, hol, hUo, hval, hlt, hz⟩
 show RunC P _ _ _ (_ :: _) _
 refine Z03 (Z00 ?_)
 refine Zl ?_
 refine Z01 (Z02 (Z03 ?_))
 (first | refine Z0c rfl ?_ ?_ | refine Z08 rfl ?_ ?_) <;> intro hc0
 ·refine Z0a (Z02 ?_)
  refine Zk [0, 1, 5, 6, 20, 21] ?_
  refine Z1q (ι := List Int) (fun (o2 : List Int) (w' : World) => St w w.heap.size Z0J ([As.ri 24 .u64 v1_6 o2]) w' ∧ o2.length = l.length + N / 64 + 1 ∧ U o2 ∧ nv o2 = 18446744073709551616 ^ (N / 64) * 2 ^ (N % 64) * nv (l.take (i + 1)) ∧ o2.getD (N / 64 + (i + 1)) 0 < 2 ^ (N % 64) ∧ (∀ j, N / 64 + (i + 1) < j → o2.getD j 0 = 0)) (fun (o2 : List Int) => []) [0, 1, 5, 6, 20, 21] (.cons rfl (.cons rfl (.cons rfl (.cons rfl (.cons rfl (.cons rfl .nil)))))) ?_ ?_
  ·refine Z0d (Z03 (Z00 (Zm (Zg (Z01 (Z02 ?_))))))
   refine Zk [0, 1, 5, 6, 7, 20, 21] ?_
   refine Z03 ?_
   refine c_tail 13 ZK ZK ?_
   have H3 := H2.drewn
   refine Zm (Zm ?_)
   refine v_getw (j := i) (l := N / 64) rfl rfl rfl rfl underlying155 tz24 underlying24 rfl rfl h2_3 (by first | exact H3.io mem0 | exact H3.iarg hv | assumption) ZI hc2_3 ZA rfl ZP ZO (fun hb6_2 => ?_)
   refine Zm (Zm ?_)
   refine Z0T rfl rfl rfl rfl underlying155 tz24 underlying24 rfl rfl (by first | exact H3.io mem0 | exact H3.iarg hv | assumption) ZA rfl rfl ZI (fun hb6_6 => ?_)
   refine Zm ?_
   refine Z2e rfl rfl rfl rfl ZO (Z2E ZO) ?_
   refine Z5I rfl rfl rfl rfl ZO (Z6B hDk (Z2H _)) ?_
   refine Z1i rfl rfl rfl rfl rfl (or_low ZO ⟨hb6_2.1, hlt⟩) ?_
   refine Z3E (j := i) (l := N / 64) rfl rfl underlying155 tz24 rfl rfl h2_3 (by first | exact H3.io mem0 | exact H3.iarg hv | assumption) ZI ZP ZO ?_
   refine Z01 ?_
   refine e_tail ?_
   refine Z1U H3 .head h2_3 ZB rfl tz24 rfl rfl ZI (fun w4 H4 => ?_)
   refine Z01 (Z02 ?_)
   refine Zk [0, 1, 5, 6, 7, 20, 21] ?_
   refine Z03 (Z00 ?_)
   have hxl := Z3I (x := l.getD i 0) (k := N % 64) ZO
   have hxd : 0 ≤ l.getD i 0 / 2 ^ (64 - N % 64) := Int.ediv_nonneg (Z1j hU i).1 ZO
   have hxd1 : l.getD i 0 / 2 ^ (64 - N % 64) < 2 ^ (N % 64) := Int.ediv_lt_of_lt_mul hE0 (by rw [Int.mul_comm, Z3f ZO]; have := (Z1j hU i).2; omega)
   have hD1 : (2 : Int) ^ (N % 64) ≤ 18446744073709551615 := by
    have := Ma.pow_mono (show (1 : Int) ≤ 2 by omega) (show N % 64 ≤ 63 by omega)
    have e : (2 : Int) ^ 63 = 9223372036854775808 := by decide
    omega
   have hnn : 0 ≤ o.getD (N / 64 + i) 0 := (Z1j hUo _).1
   have hxm := Int.mul_nonneg hxl.1 (Int.le_of_lt hD0)
   have hnew : U (o.set (N / 64 + i) (o.getD (N / 64 + i) 0 + l.getD i 0 % 2 ^ (64 - N % 64) * 2 ^ (N % 64))) := hUo.set ⟨ZO, ZO⟩ _
   refine Zm ?_
   refine Z2e rfl rfl rfl rfl ZO (Z2E ZO) ?_
   refine Zw ?_
   refine Z01 (Z02 ?_)
   refine Zk [0, 1, 5, 6, 7, 20, 21, 39] ?_
   (first | refine Z0c rfl ?_ ?_ | refine Z08 rfl ?_ ?_) <;> intro hc1
   ·refine Z00 (Zm (Zm ?_))
    refine Z0y rfl rfl rfl rfl (Z0l ZO) ?_
    refine Zm (Zm ?_)
    refine Z0T rfl rfl rfl rfl underlying155 tz24 underlying24 rfl rfl (by first | exact H4.io mem0 | exact H4.iarg hv | assumption) ZA rfl rfl ZI (fun hb8_5 => ?_)
    refine Zm ?_
    refine Z2e rfl rfl rfl rfl ZO (Z2E ZO) ?_
    refine Z0W rfl rfl rfl rfl (Z0l ZO) ?_
    refine Z3e rfl rfl rfl rfl ZO (Z2b hEk ZO) ?_
    refine Z3E (j := i + 1) (l := N / 64) rfl rfl underlying155 tz24 rfl rfl h2_3 (by first | exact H4.io mem0 | exact H4.iarg hv | assumption) ZI ZP ZO ?_
    refine Z1U H4 .head h2_3 ZB rfl tz24 rfl rfl ZI (fun w5 H5 => ?_)
    refine Z01 ?_
    refine Z0F ?_
    refine Z0w ((o.set (N / 64 + i) (o.getD (N / 64 + i) 0 + l.getD i 0 % 2 ^ (64 - N % 64) * 2 ^ (N % 64))).set (N / 64 + (i + 1)) (l.getD i 0 / 2 ^ (64 - N % 64))) ?_ (.cons rfl (.cons rfl (.cons rfl (.cons rfl (.cons rfl (.cons rfl .nil)))))) ?_
    ·refine ⟨H5, by simpa using hol, hnew.set ⟨hxd, ZO⟩ _, ?_, ?_, fun j hj => ?_⟩
     ·have h1 := set_top (N / 64) i (o.getD (N / 64 + i) 0 + l.getD i 0 % 2 ^ (64 - N % 64) * 2 ^ (N % 64)) (l.getD i 0 / 2 ^ (64 - N % 64)) (l := o) ZO (hz _ ZO)
      have h2 := shl_step (x := l.getD i 0) (o := o.getD (N / 64 + i) 0) (k := N % 64) ZO hval (18446744073709551616 ^ i)
      rw [← Int.pow_add] at h2
      rw [← Nat.add_assoc, h1]
      show _ = _ * Ma.vb _ _
      rw [Ma.vb_take_succ]
      exact h2
     ·rw [Z3w _ _ _ _ _ (by simp; omega), if_pos rfl]; exact hxd1
     rw [Z17 _ ZO, Z17 _ ZO]; exact hz j ZO
    exact .nil
   refine Z0a ?_
   refine Z0F ?_
   refine Z0w (o.set (N / 64 + i) (o.getD (N / 64 + i) 0 + l.getD i 0 % 2 ^ (64 - N % 64) * 2 ^ (N % 64))) ?_ (.cons rfl (.cons rfl (.cons rfl (.cons rfl (.cons rfl (.cons rfl .nil)))))) ?_
   ·have hs0 : N % 64 = 0 := by omega
    have hxz : l.getD i 0 / 2 ^ (64 - N % 64) = 0 := by
     rw [hs0]
     exact Int.ediv_eq_zero_of_lt (Z1j hU i).1 (by have := (Z1j hU i).2; have e : (2 : Int) ^ (64 - 0) = 18446744073709551616 := (by decide); omega)
    refine ⟨H4, by simpa using hol, hnew, ?_, ?_, fun j hj => ?_⟩
    ·have h1 := set_top (N / 64) i (o.getD (N / 64 + i) 0 + l.getD i 0 % 2 ^ (64 - N % 64) * 2 ^ (N % 64)) (l.getD i 0 / 2 ^ (64 - N % 64)) (l := o) ZO (hz _ ZO)
     have h2 := shl_step (x := l.getD i 0) (o := o.getD (N / 64 + i) 0) (k := N % 64) ZO hval (18446744073709551616 ^ i)
     rw [← Int.pow_add] at h2
     have h3 := Ma.vb_set_at 18446744073709551616 o (N / 64 + i) (o.getD (N / 64 + i) 0 + l.getD i 0 % 2 ^ (64 - N % 64) * 2 ^ (N % 64)) ZO
     rw [hxz, Int.mul_zero, Int.add_zero] at h2
     show Ma.vb _ _ = _ * Ma.vb _ _
     rw [Ma.vb_take_succ, h3]
     exact h2
    ·rw [Z17 _ ZO, hz _ ZO]; exact hD0
    rw [Z17 _ ZO]; exact hz j ZO
   exact .nil
  rintro o2 w6 ⟨H6, hl2, hU2, hv2, hlt2, hz2⟩
  refine Z00 ?_
  refine Z0y rfl rfl rfl rfl (Z0l ZO) ?_
  refine Zm (Z01 ?_)
  refine Z0p (i := (i, o)) (i + 1, o2) ?_ ?_ (.cons rfl (.cons rfl (.cons rfl (.cons rfl (.cons rfl .nil))))) ?_
  ·first | omega | (simp; omega)
  ·exact ⟨H6, ZO, hl2, hU2, hv2, hlt2, hz2⟩
  exact (.cons rfl ZN .nil)
 refine Z0H ?_
 refine Z06 ?_
 refine Z06 ?_
 refine Z0h ?_
 refine Z02 ?_
 refine Zk [5] ?_
 refine Z03 (Z00 (Zm (Zg (Z01 (Z02 ?_)))))
 refine Zk [4] ?_
 refine Z0i ?_
 refine Z0e results274 rfl ?_
 refine ⟨_, rfl, ?_⟩
 obtain rfl : i = l.length := by omega
 rw [List.take_length] at hval
 refine ⟨_, _, rfl, hUo, hol, ?_, H2.grows⟩
 rw [hval, show (18446744073709551616 : Int) = 2 ^ 64 from rfl, ← Int.pow_mul, ← Int.pow_add, show 64 * (N / 64) + N % 64 = N from Nat.div_add_mod N 64, Int.mul_comm]
theorem shr_step {p S H A x y : Int} {k : Nat} (hk : k ≤ 64) (h : 2 ^ k * S + H = A + p * (x % 2 ^ k)) : 2 ^ k * (S + p * (x / 2 ^ k + y % 2 ^ k * 2 ^ (64 - k))) + H = A + p * x + p * 18446744073709551616 * (y % 2 ^ k) := by
 have e := Int.emod_add_mul_ediv x (2 ^ k)
 have e2 : 2 ^ k * (p * (x / 2 ^ k + y % 2 ^ k * 2 ^ (64 - k))) = p * (2 ^ k * (x / 2 ^ k)) + p * 18446744073709551616 * (y % 2 ^ k) := by
  rw [← Z3f hk, Int.mul_left_comm, Int.mul_add, Int.mul_add]
  congr 1
  rw [Int.mul_assoc]
  congr 1
  rw [Int.mul_left_comm, Int.mul_comm (2 ^ (64 - k)) (2 ^ k), Int.mul_assoc, Int.mul_left_comm, Int.mul_comm (y % 2 ^ k)]
 have e3 : p * x = p * (x % 2 ^ k) + p * (2 ^ k * (x / 2 ^ k)) := by rw [← Int.mul_add, e]
 rw [Int.mul_add, e2, e3]
 omega
theorem nv_drop {l : List Int} (hU : U l) (q : Nat) (hq : q ≤ l.length) : nv (l.drop q) = nv l / 18446744073709551616 ^ q := by
 have e := Ma.vb_append 18446744073709551616 (l.take q) (l.drop q)
 rw [List.take_append_drop, List.length_take, Nat.min_eq_left hq] at e
 have h1 := Ma.vb_lt (show (0 : Int) < 18446744073709551616 by omega) (hU.dg.take q)
 have h2 := Ma.vb_nonneg (show (0 : Int) < 18446744073709551616 by omega) (hU.dg.take q)
 rw [List.length_take, Nat.min_eq_left hq] at h1
 show Ma.vb _ _ = Ma.vb _ _ / _
 rw [e, Int.add_mul_ediv_left _ _ ZO, Int.ediv_eq_zero_of_lt h2 h1, Int.zero_add]
theorem U.drop {l : List Int} (h : U l) (n : Nat) : U (l.drop n) := fun x hx => h x (List.mem_of_mem_drop hx)
def shlS (x n : Int) : Int × Int := if 8192 < Ma.blen x then (21, 0) else if n < 0 then (23, 0) else if x = 0 then (0, 0) else if 8192 - Ma.blen x < n then (21, 0) else (0, x * 2 ^ n.toNat)
theorem ShlN (v : Value) (l : List Int) (hU : U l) (hL : l.length ≤ 68719476736) (n : Int) (w : World) (hv : IV w v (ints .u64 l)) :
  Z0f P 249 [v, .int .i64 n] w fun r w' => NatR w w' r (shlS (nv l) n).1 (shlS (nv l) n).2 := by
 refine Z0o func249 rfl ntmps249 rfl ?_
 have H0 := St.start w
 obtain ⟨A, c, rfl, hc, hs⟩ := hv
 have hv : IV w (.slice A (ints .u64 l).length c) (ints .u64 l) := ⟨A, c, rfl, hc, hs⟩
 have hvt := Z21 hv
 have hta : (Ma.tr l).length ≤ l.length := (Ma.tr_take l).2.1
 have hb0 := Ma.blen_nonneg (nv l)
 clear hs
 refine Z03 (Z00 (Zg (Zg (Z01 (Z02 ?_)))))
 refine Zk [0, 1] ?_
 refine Z03 (Z0d (Z03 (Z00 (Zm ?_))))
 refine Zp func265 (Z4S A c l hU ZO w (H0.iarg hv)) ?_
 refine Zg (Z01 (Z02 ?_))
 refine Zk [0, 1, 6] ?_
 (first | refine Z0c rfl ?_ ?_ | refine Z08 rfl ?_ ?_) <;> intro hc0
 ·refine Z03 (Z00 (Zg (Zg (Z01 (Z02 ?_)))))
  refine Zk [4, 5] ?_
  refine Z0i ?_
  refine Z0k ?_
  refine Z07 ?_
  refine Z0P results249 rfl rfl ?_
  refine ⟨_, rfl, ?_⟩
  have e : shlS (nv l) n = (21, 0) := if_pos hc0
  rw [e]
  exact ⟨_, _, rfl, Ma.Cn.nil, (H0.nil 24).grows⟩
 refine Z03 (Z00 (Zm ?_))
 refine Zl ?_
 refine Zg (Z01 (Z02 ?_))
 refine Zk [0, 1, 9] ?_
 (first | refine Z0c rfl ?_ ?_ | refine Z08 rfl ?_ ?_) <;> intro hc1
 ·refine Z03 (Z00 (Zg (Zg (Z01 (Z02 ?_)))))
  refine Zk [4, 5] ?_
  refine Z0i ?_
  refine Z0k ?_
  refine Z07 ?_
  refine Z0P results249 rfl rfl ?_
  refine ⟨_, rfl, ?_⟩
  have e : shlS (nv l) n = (23, 0) := by unfold shlS; rw [if_neg hc0, if_pos hc1]
  rw [e]
  exact ⟨_, _, rfl, Ma.Cn.nil, (H0.nil 24).grows⟩
 refine Z03 (Z00 (Zm ?_))
 refine Zp func250 (lenN A c l hU ZO w (H0.iarg hv)) ?_
 refine Ze ?_
 refine Zg (Z01 (Z02 ?_))
 refine Zk [0, 1, 12] ?_
 (first | refine Z0c rfl ?_ ?_ | refine Z08 rfl ?_ ?_) <;> intro hc2
 ·refine Z03 (Z00 (Zg (Zg (Z01 (Z02 ?_)))))
  refine Zk [4, 5] ?_
  refine Z0i ?_
  refine Z0k ?_
  refine Z07 ?_
  refine Z0P results249 rfl rfl ?_
  refine ⟨_, rfl, ?_⟩
  have hz : nv l = 0 := by
   rcases Int.lt_or_eq_of_le hU.nv_nonneg with h | h
   ·have := Ma.blen_pos h; omega
   exact h.symm
  have e : shlS (nv l) n = (0, 0) := by unfold shlS; rw [if_neg hc0, if_neg hc1, if_pos hz]
  rw [e]
  exact ⟨_, _, rfl, Ma.Cn.nil, (H0.nil 24).grows⟩
 refine Z03 (Z00 (Zm (Zm ?_)))
 refine Zp func250 (lenN A c l hU ZO w (H0.iarg hv)) ?_
 refine Z0W rfl rfl rfl rfl (Z0l ZO) ?_
 refine Zw ?_
 refine Zg (Z01 (Z02 ?_))
 refine Zk [0, 1, 16] ?_
 (first | refine Z0c rfl ?_ ?_ | refine Z08 rfl ?_ ?_) <;> intro hc3
 ·refine Z03 (Z00 (Zg (Zg (Z01 (Z02 ?_)))))
  refine Zk [4, 5] ?_
  refine Z0i ?_
  refine Z0k ?_
  refine Z07 ?_
  refine Z0P results249 rfl rfl ?_
  refine ⟨_, rfl, ?_⟩
  have hz : nv l ≠ 0 := fun h => by rw [h] at hc2; exact hc2 Ma.blen_zero
  have e : shlS (nv l) n = (21, 0) := by unfold shlS; rw [if_neg hc0, if_neg hc1, if_neg hz, if_pos hc3]
  rw [e]
  exact ⟨_, _, rfl, Ma.Cn.nil, (H0.nil 24).grows⟩
 refine Z0a ?_
 refine Z0F ?_
 refine Z02 ?_
 refine Zk [0, 1] ?_
 refine Z03 (Z00 ?_)
 have hp : 0 < nv l := by
  have := hU.nv_nonneg
  rcases Int.lt_or_eq_of_le this with h | h
  ·exact h
  rw [← h] at hc2
  exact absurd Ma.blen_zero hc2
 have hb1 := Ma.blen_pos hp
 refine Zm ?_
 refine Zp func264 (trim A c l hU ZO w (H0.iarg hv)) ?_
 refine Zm ?_
 refine Z0j (s := 24) (v' := .int .i64 ((n.toNat : Nat) : Int)) rfl (by rw [Int.toNat_of_nonneg ZO]) ?_
 refine Z0I rfl rfl func274 rfl rfl (.cons rfl (.cons rfl .nil)) (shlN _ (Ma.tr l) hU.tr ZO n.toNat ZO w (H0.iarg hvt)) ?_
 rintro vs w1 ⟨_, ls, rfl, hUs, hls, hns, hG⟩
 have H1 := hG _ _ _ _ H0
 simp only [Zca, Zna] at H1
 refine Zc func264 (Z2U hUs ZO (H1.io mem0)) ?_
 rintro vt w2 ⟨_, rfl, hT⟩
 have H2 := hT _ _ _ _ _ .head H1
 refine Zg (Zg (Z01 (Z02 ?_)))
 refine Zk [4, 5] ?_
 refine Z0i ?_
 refine Z0P results249 rfl rfl ?_
 refine ⟨_, rfl, ?_⟩
 have e : shlS (nv l) n = (0, nv l * 2 ^ n.toNat) := by unfold shlS; rw [if_neg hc0, if_neg hc1, if_neg ZO, if_neg hc3]
 rw [e]
 rw [Z3M] at hns
 exact ⟨_, _, rfl, Ma.Cn.of_tr hUs.dg hns, H2.grows⟩
theorem or_high {x b : Int} {k : Nat} (hk : k ≤ 64) (hb : 0 ≤ b ∧ b < 2 ^ (64 - k)) : bitw .or .u64 b (x * 2 ^ (64 - k) % 18446744073709551616) = b + x % 2 ^ k * 2 ^ (64 - k) := by
 have := or_low (x := x) (b := b) (k := 64 - k) (by omega) hb
 rwa [show 64 - (64 - k) = k from by omega] at this
theorem high_lt {x : Int} {k : Nat} (hk : k ≤ 64) : 0 ≤ x % 2 ^ k ∧ x % 2 ^ k * 2 ^ (64 - k) + 2 ^ (64 - k) ≤ 18446744073709551616 := by
 have := Z3I (x := x) (k := 64 - k) (by omega)
 rwa [show 64 - (64 - k) = k from by omega] at this
def shrS (x n : Int) : Int × Int × Bool := if 8192 < Ma.blen x then (21, 0, false) else if n < 0 then (23, 0, false) else (0, x / 2 ^ n.toNat, decide (¬ x % 2 ^ n.toNat = 0))
def LostR (w w' : World) (r : Value) (e n : Int) (b : Bool) : Prop := ∃ v ls, r = .tuple #[v, .bool b, .int .i64 e] ∧ Ma.Cn 18446744073709551616 ls n ∧ Grow w w' [As.ri 24 .u64 v ls]
theorem shrN (v : Value) (l : List Int) (hU : U l) (hL : l.length ≤ 68719476736) (N : Nat) (hN : N ≤ 1099511627776) (hq : N / 64 ≤ l.length) (w : World) (hv : IV w v (ints .u64 l)) :
  Z0f P 293 [v, .int .i64 (N : Int)] w fun r w' => ∃ v ls, r = v ∧ U ls ∧ ls.length = l.length - N / 64 ∧ nv ls = nv l / 2 ^ N ∧ Grow w w' [As.ri 24 .u64 v ls] := by
 refine Z0o func293 rfl ntmps293 rfl ?_
 have H0 := St.start w
 have hs64 : N % 64 < 64 := Nat.mod_lt _ ZO
 have hD0 := Ma.pow_pos (show (0 : Int) < 2 by omega) (N % 64)
 have hE0 := Ma.pow_pos (show (0 : Int) < 2 by omega) (64 - N % 64)
 have hDk : (2 : Int) ^ (min ((N : Int) % 64).toNat IntKind.u64.bits) = 2 ^ (N % 64) := by
  show (2 : Int) ^ (min ((N : Int) % 64).toNat 64) = _
  rw [show ((N : Int) % 64).toNat = N % 64 from by omega, Nat.min_eq_left ZO]
 have hEk : (2 : Int) ^ (min (64 - (N : Int) % 64).toNat IntKind.u64.bits) = 2 ^ (64 - N % 64) := by
  show (2 : Int) ^ (min (64 - (N : Int) % 64).toNat 64) = _
  rw [show (64 - (N : Int) % 64).toNat = 64 - N % 64 from by omega, Nat.min_eq_left ZO]
 have hU2 := hU.drop (N / 64)
 have hl2 : (l.drop (N / 64)).length = l.length - N / 64 := List.length_drop
 refine Z03 (Z00 (Zg (Z01 (Z02 ?_))))
 refine Zk [0, 1] ?_
 refine Z03 (Z00 (Zm (Zm ?_)))
 refine Z2D rfl rfl rfl rfl ZO (Z35 ZO) ?_
 refine Z5B (l := N / 64) (h := l.length) rfl rfl underlying155 tz24 rfl rfl rfl rfl (by first | exact H0.iarg hv2 | exact H0.iarg hv | assumption) ZD ZD (.inl rfl) (by simp) ZO ZI (fun v1_3 h1_3 ho1_3 => ?_)
 have hv2 : IV w v1_3 (ints .u64 (l.drop (N / 64))) := by
  rw [List.take_of_length_le (by simp), ← List.map_drop] at h1_3
  exact h1_3
 refine Zg (Z01 (Z02 ?_))
 refine Zk [0, 1] ?_
 refine Z03 (Z00 (Zm ?_))
 refine Z0u rfl rfl underlying155 rfl (by first | exact H0.iarg hv2 | exact H0.iarg hv | assumption) ?_
 refine Z1A (m := (l.drop (N / 64)).length) (c := (l.drop (N / 64)).length) H0 rfl rfl underlying155 ti24 rfl rfl rfl ZO ZO ZO ZO ZO (fun v2_2 w1 H1 => ?_)
 refine Zg (Z01 (Z02 ?_))
 refine Zk [0, 1, 5] ?_
 refine Z03 (Z03 (Z00 ?_))
 have hw2z := H1.cast (show [As.ro 24 v2_2 (List.replicate (l.drop (N / 64)).length (Value.int IntKind.u64 0))] = [As.ri 24 .u64 v2_2 (List.replicate (l.drop (N / 64)).length 0)] from by rw [Z14])
 refine Zm ?_
 refine Z0u rfl rfl underlying155 rfl (by first | exact H1.io mem0 | exact H1.iarg hv2 | exact H1.iarg hv | assumption) ?_
 refine Zm (Z01 (Z02 ?_))
 refine Zk [0, 1, 5, 15, 16] ?_
 refine Z0d ?_
 refine Z0z (ι := Nat × List Int) (fun (z0 : Nat × List Int) => match z0 with | ⟨i, o⟩ => (l.drop (N / 64)).length - i) (fun (z0 : Nat × List Int) (w' : World) => match z0 with | ⟨i, o⟩ => St w w.heap.size Z0J ([As.ri 24 .u64 v2_2 o]) w' ∧ i ≤ (l.drop (N / 64)).length ∧ o.length = (l.drop (N / 64)).length ∧ U o ∧ 2 ^ (N % 64) * nv (o.take i) + (l.drop (N / 64)).getD 0 0 % 2 ^ (N % 64) = nv ((l.drop (N / 64)).take i) + 18446744073709551616 ^ i * ((l.drop (N / 64)).getD i 0 % 2 ^ (N % 64))) (fun (z0 : Nat × List Int) => match z0 with | ⟨i, o⟩ => [(16, .int .i64 (i : Int))]) [0, 1, 5, 15] (0, List.replicate (l.drop (N / 64)).length 0) ?_ (.cons rfl (.cons rfl (.cons rfl (.cons rfl .nil)))) ?_ ?_
 ·exact ⟨hw2z, ZO, by simp, U.zeros _, by simp [Ma.vb]⟩
 ·exact (.cons rfl ZN .nil)
 rintro ⟨i, o⟩ w2 ⟨H2, hi, hol, hUo, hval⟩
 show RunC P _ _ _ (_ :: _) _
 refine Z03 (Z00 ?_)
 refine Zl ?_
 refine Z01 (Z02 (Z03 ?_))
 (first | refine Z0c rfl ?_ ?_ | refine Z08 rfl ?_ ?_) <;> intro hc0
 ·refine Z0a (Z02 ?_)
  refine Zk [0, 1, 5, 15, 16] ?_
  refine Z1q (ι := List Int) (fun (o2 : List Int) (w' : World) => St w w.heap.size Z0J ([As.ri 24 .u64 v2_2 o2]) w' ∧ o2 = o.set i ((l.drop (N / 64)).getD i 0 / 2 ^ (N % 64) + (l.drop (N / 64)).getD (i + 1) 0 % 2 ^ (N % 64) * 2 ^ (64 - N % 64))) (fun (o2 : List Int) => []) [0, 1, 5, 15, 16] (.cons rfl (.cons rfl (.cons rfl (.cons rfl (.cons rfl .nil))))) ?_ ?_
  ·refine Z0d (Z03 (Z00 (Zm (Zg (Z01 (Z02 ?_))))))
   refine Zk [0, 1, 5, 6, 15, 16] ?_
   refine Z03 (Z00 (Zm (Zm (Zm (Zm ?_)))))
   refine Z0T rfl rfl rfl rfl underlying155 tz24 underlying24 rfl rfl (by first | exact H2.io mem0 | exact H2.iarg hv2 | exact H2.iarg hv | assumption) ZA rfl rfl ZI (fun hb6_4 => ?_)
   refine Zm ?_
   refine Z2e rfl rfl rfl rfl ZO (Z2E ZO) ?_
   refine Z3e rfl rfl rfl rfl ZO (Z2b hDk ZO) ?_
   refine Z2o rfl rfl underlying155 tz24 rfl rfl (by first | exact H2.io mem0 | exact H2.iarg hv2 | exact H2.iarg hv | assumption) rfl ZI (fun A6_9 c6_9 hA6_9 => ?_)
   refine Z1w H2 .head hA6_9 rfl tz24 rfl rfl ZI (fun w3 H3 => ?_)
   refine Z01 (Z02 ?_)
   refine Zk [0, 1, 5, 6, 15, 16] ?_
   refine Z03 (Z00 ?_)
   have hgx := Z1j hU2 i
   have hgy := Z1j hU2 (i + 1)
   have hx0 : 0 ≤ (l.drop (N / 64)).getD i 0 / 2 ^ (N % 64) := Int.ediv_nonneg hgx.1 ZO
   have hx1 : (l.drop (N / 64)).getD i 0 / 2 ^ (N % 64) < 2 ^ (64 - N % 64) := Int.ediv_lt_of_lt_mul hD0 (by rw [Z3f ZO]; omega)
   have hy := high_lt (x := (l.drop (N / 64)).getD (i + 1) 0) (k := N % 64) ZO
   have hyE := Int.mul_nonneg hy.1 (Int.le_of_lt hE0)
   have hxx : 0 ≤ (l.drop (N / 64)).getD i 0 / 2 ^ (N % 64) ∧ (l.drop (N / 64)).getD i 0 / 2 ^ (N % 64) ≤ 18446744073709551615 := by omega
   have hos : (o.set i ((l.drop (N / 64)).getD i 0 / 2 ^ (N % 64))).length = o.length := List.length_set
   have hU1 : U (o.set i ((l.drop (N / 64)).getD i 0 / 2 ^ (N % 64))) := hUo.set hxx _
   refine Zm ?_
   refine Z2e rfl rfl rfl rfl ZO (Z2E ZO) ?_
   refine Zw ?_
   refine Z01 (Z02 ?_)
   refine Zk [0, 1, 5, 6, 15, 16, 31] ?_
   (first | refine Z0c rfl ?_ ?_ | refine Z08 rfl ?_ ?_) <;> intro hc1
   ·refine c_tail 14 ZK ZK ?_
    have H4 := H3.drewn
    refine Zm (Zm ?_)
    refine Z0T (j := i) rfl rfl rfl rfl underlying155 tz24 underlying24 rfl rfl (by first | exact H4.io mem0 | exact H4.iarg hv2 | exact H4.iarg hv | assumption) ZA rfl ZO ZI (fun hb8_2 => ?_)
    refine Z0j (s := 35) (v' := .int .u64 ((l.drop (N / 64)).getD i 0 / 2 ^ (N % 64))) rfl (by rw [Z3w _ _ _ _ _ ZO, if_pos rfl]) ?_
    refine Zm (Zm ?_)
    refine Z0y rfl rfl rfl rfl (Z0l ZO) ?_
    refine Z0j (s := 38) (v' := .int .i64 ((i + 1 : Nat) : Int)) rfl rfl ?_
    refine Z13 rfl rfl func267 rfl rfl (.cons rfl (.cons rfl .nil)) (atN _ _ hU2 (i + 1) w3.drew (H4.iarg hv2)) ?_
    refine Zm ?_
    refine Z2e rfl rfl rfl rfl ZO (Z2E ZO) ?_
    refine Z0W rfl rfl rfl rfl (Z0l ZO) ?_
    refine Z5I rfl rfl rfl rfl ZO (Z6B hEk (Z2H _)) ?_
    refine Z1i rfl rfl rfl rfl rfl (or_high ZO ⟨hx0, hx1⟩) ?_
    refine Z2o (j := i) rfl rfl underlying155 tz24 rfl rfl (by first | exact H4.io mem0 | exact H4.iarg hv2 | exact H4.iarg hv | assumption) ZO ZI (fun A8_13 c8_13 hA8_13 => ?_)
    refine Z01 ?_
    refine e_tail ?_
    refine Z1w H4 .head hA8_13 rfl tz24 rfl rfl ZI (fun w5 H5 => ?_)
    refine Z01 ?_
    refine Z0F ?_
    refine Z0w ((o.set i ((l.drop (N / 64)).getD i 0 / 2 ^ (N % 64))).set i ((l.drop (N / 64)).getD i 0 / 2 ^ (N % 64) + (l.drop (N / 64)).getD (i + 1) 0 % 2 ^ (N % 64) * 2 ^ (64 - N % 64))) ?_ (.cons rfl (.cons rfl (.cons rfl (.cons rfl (.cons rfl .nil))))) ?_
    ·exact ⟨H5, by rw [List.set_set]⟩
    exact .nil
   refine Z0a ?_
   refine Z0F ?_
   refine Z0w (o.set i ((l.drop (N / 64)).getD i 0 / 2 ^ (N % 64))) ?_ (.cons rfl (.cons rfl (.cons rfl (.cons rfl (.cons rfl .nil))))) ?_
   ·have hs0 : N % 64 = 0 := by omega
    refine ⟨H3, ?_⟩
    congr 1
    rw [hs0, Int.pow_zero, Int.emod_one, Int.zero_mul, Int.add_zero]
   exact .nil
  rintro o2 w6 ⟨H6, ho2⟩
  refine Z00 ?_
  refine Z0y rfl rfl rfl rfl (Z0l ZO) ?_
  refine Zm (Z01 ?_)
  refine Z0p (i := (i, o)) (i + 1, o.set i ((l.drop (N / 64)).getD i 0 / 2 ^ (N % 64) + (l.drop (N / 64)).getD (i + 1) 0 % 2 ^ (N % 64) * 2 ^ (64 - N % 64))) ?_ ?_ (.cons rfl (.cons rfl (.cons rfl (.cons rfl .nil)))) ?_
  ·first | omega | (simp; omega)
  ·have hgx := Z1j hU2 i
   have hgy := Z1j hU2 (i + 1)
   have hx0 : 0 ≤ (l.drop (N / 64)).getD i 0 / 2 ^ (N % 64) := Int.ediv_nonneg hgx.1 ZO
   have hx1 : (l.drop (N / 64)).getD i 0 / 2 ^ (N % 64) < 2 ^ (64 - N % 64) := Int.ediv_lt_of_lt_mul hD0 (by rw [Z3f ZO]; omega)
   have hy := high_lt (x := (l.drop (N / 64)).getD (i + 1) 0) (k := N % 64) ZO
   have hyE := Int.mul_nonneg hy.1 (Int.le_of_lt hE0)
   have hxx : 0 ≤ (l.drop (N / 64)).getD i 0 / 2 ^ (N % 64) ∧ (l.drop (N / 64)).getD i 0 / 2 ^ (N % 64) ≤ 18446744073709551615 := by omega
   have h1 := Ma.vb_set 18446744073709551616 o i ((l.drop (N / 64)).getD i 0 / 2 ^ (N % 64) + (l.drop (N / 64)).getD (i + 1) 0 % 2 ^ (N % 64) * 2 ^ (64 - N % 64)) ZO
   have h2 := shr_step (x := (l.drop (N / 64)).getD i 0) (y := (l.drop (N / 64)).getD (i + 1) 0) (k := N % 64) ZO hval
   refine ⟨by rw [← ho2]; exact H6, ZO, by simpa using hol, hUo.set ⟨ZO, ZO⟩ _, ?_⟩
   show _ * Ma.vb _ _ + _ = Ma.vb _ _ + _
   rw [h1, Ma.vb_take_succ, Int.pow_succ]
   exact h2
  exact (.cons rfl ZN .nil)
 refine Z0H ?_
 refine Z06 ?_
 refine Z06 ?_
 refine Z0h ?_
 refine Z02 ?_
 refine Zk [5] ?_
 refine Z03 (Z00 (Zm (Zg (Z01 (Z02 ?_)))))
 refine Zk [4] ?_
 refine Z0i ?_
 refine Z0e results293 rfl ?_
 refine ⟨_, rfl, ?_⟩
 obtain rfl : i = (l.drop (N / 64)).length := by omega
 rw [List.take_of_length_le ZO, List.take_length] at hval
 have hg0 : (l.drop (N / 64)).getD (l.drop (N / 64)).length 0 = 0 := by simp [List.getD]
 rw [hg0, Int.zero_emod, Int.mul_zero, Int.add_zero] at hval
 have hm0 := Int.emod_nonneg ((l.drop (N / 64)).getD 0 0) (show (2 : Int) ^ (N % 64) ≠ 0 by omega)
 have hm1 := Int.emod_lt_of_pos ((l.drop (N / 64)).getD 0 0) hD0
 have hd := (div_of (n := nv (l.drop (N / 64))) (y := 2 ^ (N % 64)) (Q := nv o) (by rw [← hval, Int.mul_comm]) hm0 hm1).1
 refine ⟨_, _, rfl, hUo, ZO, ?_, H2.grows⟩
 rw [← hd, nv_drop hU _ hq, Int.ediv_ediv_of_nonneg (Int.le_of_lt (Ma.pow_pos ZO _)), show (18446744073709551616 : Int) = 2 ^ 64 from rfl, ← Int.pow_mul, ← Int.pow_add, show 64 * (N / 64) + N % 64 = N from Nat.div_add_mod N 64]
theorem ShrN (v : Value) (l : List Int) (hU : U l) (hL : l.length ≤ 68719476736) (n : Int) (w : World) (hv : IV w v (ints .u64 l)) :
  Z0f P 315 [v, .int .i64 n] w fun r w' => LostR w w' r (shrS (nv l) n).1 (shrS (nv l) n).2.1 (shrS (nv l) n).2.2 := by
 refine Z0o func315 rfl ntmps315 rfl ?_
 have H0 := St.start w
 obtain ⟨A, c, rfl, hc, hs⟩ := hv
 have hv : IV w (.slice A (ints .u64 l).length c) (ints .u64 l) := ⟨A, c, rfl, hc, hs⟩
 have hvt := Z21 hv
 have hta : (Ma.tr l).length ≤ l.length := (Ma.tr_take l).2.1
 have hb0 := Ma.blen_nonneg (nv l)
 clear hs
 refine Z03 (Z00 (Zg (Zg (Zg (Z01 (Z02 ?_))))))
 refine Zk [0, 1] ?_
 refine Z03 (Z0d (Z03 (Z00 (Zm ?_))))
 refine Zp func265 (Z4S A c l hU ZO w (H0.iarg hv)) ?_
 refine Zg (Z01 (Z02 ?_))
 refine Zk [0, 1, 7] ?_
 (first | refine Z0c rfl ?_ ?_ | refine Z08 rfl ?_ ?_) <;> intro hc0
 ·refine Z03 (Z00 (Zg (Zg (Zg (Z01 (Z02 ?_))))))
  refine Zk [4, 5, 6] ?_
  refine Z0i ?_
  refine Z0k ?_
  refine Z07 ?_
  refine Z12 results315 (.tmp rfl (.tmp rfl (.tmp rfl .nil))) rfl ?_
  refine ⟨_, rfl, ?_⟩
  have e : shrS (nv l) n = (21, 0, false) := if_pos hc0
  rw [e]
  exact ⟨_, _, rfl, Ma.Cn.nil, (H0.nil 24).grows⟩
 refine Z03 (Z00 (Zm ?_))
 refine Zl ?_
 refine Zg (Z01 (Z02 ?_))
 refine Zk [0, 1, 10] ?_
 (first | refine Z0c rfl ?_ ?_ | refine Z08 rfl ?_ ?_) <;> intro hc1
 ·refine Z03 (Z00 (Zg (Zg (Zg (Z01 (Z02 ?_))))))
  refine Zk [4, 5, 6] ?_
  refine Z0i ?_
  refine Z0k ?_
  refine Z07 ?_
  refine Z12 results315 (.tmp rfl (.tmp rfl (.tmp rfl .nil))) rfl ?_
  refine ⟨_, rfl, ?_⟩
  have e : shrS (nv l) n = (23, 0, false) := by unfold shrS; rw [if_neg hc0, if_pos hc1]
  rw [e]
  exact ⟨_, _, rfl, Ma.Cn.nil, (H0.nil 24).grows⟩
 refine Z03 (Z00 (Zm (Zm ?_)))
 refine Zp func250 (lenN A c l hU ZO w (H0.iarg hv)) ?_
 refine Zh ?_
 refine Zg (Z01 (Z02 ?_))
 refine Zk [0, 1, 13] ?_
 (first | refine Z0c rfl ?_ ?_ | refine Z08 rfl ?_ ?_) <;> intro hc2
 ·refine Z03 (Z00 (Zm ?_))
  refine Zp func250 (lenN A c l hU ZO w (H0.iarg hv)) ?_
  refine Zw ?_
  refine Zg (Zg (Zg (Z01 (Z02 ?_))))
  refine Zk [4, 5, 6] ?_
  refine Z0i ?_
  refine Z0k ?_
  refine Z07 ?_
  refine Z12 results315 (.tmp rfl (.tmp rfl (.tmp rfl .nil))) rfl ?_
  refine ⟨_, rfl, ?_⟩
  have hlt : nv l < 2 ^ n.toNat := (Ma.blen_le_iff hU.nv_nonneg n.toNat).1 ZO
  have e : shrS (nv l) n = (0, 0, decide (0 < Ma.blen (nv l))) := by
   unfold shrS
   rw [if_neg hc0, if_neg hc1, Int.ediv_eq_zero_of_lt hU.nv_nonneg hlt, Int.emod_eq_of_lt hU.nv_nonneg hlt]
   congr 2
   refine decide_eq_decide.2 ⟨fun h => Ma.blen_pos (by have := hU.nv_nonneg; omega), fun h h0 => ?_⟩
   rw [h0, Ma.blen_zero] at h
   omega
  rw [e]
  exact ⟨_, _, rfl, Ma.Cn.nil, (H0.nil 24).grows⟩
 refine Z0a ?_
 refine Z0F ?_
 refine Z02 ?_
 refine Zk [0, 1] ?_
 refine Z03 (Z00 (Zm ?_))
 refine Zp func264 (trim A c l hU ZO w (H0.iarg hv)) ?_
 refine Zg (Z01 (Z02 ?_))
 refine Zk [0, 1] ?_
 refine Z03 (Z00 ?_)
 have hcn : Ma.Cn 18446744073709551616 (Ma.tr l) (nv l) := Ma.Cn.of_tr hU.dg rfl
 have hlen := Z3x hcn (k := (Ma.blen (nv l)).toNat) ZO
 have hqn : n.toNat / 64 ≤ (Ma.tr l).length := by
  have h0 : 0 < (Ma.tr l).length := by
   rcases Nat.eq_zero_or_pos (Ma.tr l).length with h | h
   ·have := (hcn.nil_iff ZO).1 (List.eq_nil_of_length_eq_zero h)
    rw [this, Ma.blen_zero] at hc2
    omega
   exact h
  have hbw := blen_words hU.tr (Ma.tr_Tr l) h0
  have hy1 : Ma.blen ((Ma.tr l).getD ((Ma.tr l).length - 1) 0) ≤ 64 := (Ma.blen_le_iff (Z1j hU.tr _).1 64).2 (Int.lt_of_le_of_lt (Z1j hU.tr _).2 (by decide))
  rw [Z3M] at hbw
  omega
 refine Zm (Zm ?_)
 refine Z0j (s := 24) (v' := .int .i64 ((n.toNat : Nat) : Int)) rfl (by rw [Int.toNat_of_nonneg ZO]) ?_
 refine Z0I rfl rfl func293 rfl rfl (.cons rfl (.cons rfl .nil)) (shrN _ (Ma.tr l) hU.tr ZO n.toNat ZO hqn w (H0.iarg hvt)) ?_
 rintro vs w1 ⟨_, ls, rfl, hUs, hls, hns, hG⟩
 have H1 := hG _ _ _ _ H0
 simp only [Zca, Zna] at H1
 refine Zc func264 (Z2U hUs ZO (H1.io mem0)) ?_
 rintro vt w2 ⟨_, rfl, hT⟩
 have H2 := hT _ _ _ _ _ .head H1
 refine Zg (Z01 (Z02 ?_))
 refine Zk [0, 1, 4] ?_
 refine Z03 (Z00 (Zm (Zm (Zm ?_))))
 have hlt : (Ma.tr ls).length ≤ ls.length := (Ma.tr_take ls).2.1
 refine Z0j (s := 29) (v' := .int .i64 ((n.toNat : Nat) : Int)) rfl (by rw [Int.toNat_of_nonneg ZO]) ?_
 refine Z0I rfl rfl func274 rfl rfl (.cons rfl (.cons rfl .nil)) (shlN _ (Ma.tr ls) hUs.tr ZO n.toNat ZO w2 (H2.io mem0)) ?_
 rintro vx w3 ⟨_, lx, rfl, hUx, hlx, hnx, hG⟩
 have H3 := hG _ _ _ _ H2
 simp only [Zca, Zna] at H3
 refine Zm ?_
 refine Z0I rfl rfl func253 rfl rfl (.cons rfl (.cons rfl .nil)) (cmpN _ _ lx (Ma.tr l) hUx hU.tr ZO ZO w3 (H3.io mem0) (H3.iarg hvt)) ?_
 rintro _ w4 ⟨rfl, hG⟩
 have H4 := hG _ _ _ _ H3
 simp only [Zca, Zna] at H4
 refine Zo ?_
 refine Zg (Zg (Zg (Z01 (Z02 ?_))))
 refine Zk [4, 5, 6] ?_
 refine Z0i ?_
 refine Z12 results315 (.tmp rfl (.tmp rfl (.tmp rfl .nil))) rfl ?_
 refine ⟨_, rfl, ?_⟩
 have H5 := St.del .head H4
 rw [Z3M] at hns hnx
 have hp := Ma.pow_pos (show (0 : Int) < 2 by omega) n.toNat
 have ed := Int.emod_add_mul_ediv (nv l) (2 ^ n.toNat)
 have e : shrS (nv l) n = (0, nv l / 2 ^ n.toNat, decide (¬ cmpI (nv lx) (nv (Ma.tr l)) = 0)) := by
  unfold shrS
  rw [if_neg hc0, if_neg hc1]
  congr 2
  refine decide_eq_decide.2 (not_congr ?_)
  rw [hnx, hns, Z3M, Int.mul_comm]
  constructor
  ·intro h
   exact cmpI_eq ZO
  intro h
  have h1 := Int.emod_nonneg (nv l) (show (2 : Int) ^ n.toNat ≠ 0 by omega)
  rcases Int.lt_or_eq_of_le h1 with h2 | h2
  ·rw [Z4d ZO] at h
   omega
  exact h2.symm
 rw [e]
 exact ⟨_, _, rfl, Ma.Cn.of_tr hUs.dg hns, H5.grows⟩
end Go.Proofs.YtgjgahmhoflgcaaGreatDoor.W
