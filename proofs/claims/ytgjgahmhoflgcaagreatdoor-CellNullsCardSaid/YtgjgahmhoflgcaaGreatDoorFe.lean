/- walk of nat.Mul -/
import Derived.Test.YtgjgahmhoflgcaaGreatDoorFa
set_option linter.unusedVariables false
set_option linter.unusedSimpArgs false
set_option maxRecDepth 10000
namespace Go.Proofs.YtgjgahmhoflgcaaGreatDoor.W
open Go.Vc Go.RowKit Tryz
theorem mul_place {W p V c A x y o hi lo s1 c1 s2 c2 : Int} (hW : 0 < W) (h : V + p * c = A) (h1 : hi * W + lo = x * y) (h2 : s1 + c1 * W = lo + c) (h3 : s2 + c2 * W = o + s1) :
  (V + p * (s2 - o)) + (p * W) * (hi + c1 + c2) = A + p * (x * y) := by
 have e : p * (s2 - o) + (p * W) * (hi + c1 + c2) = p * (x * y) + p * c := by
  rw [Int.mul_assoc, ← Int.mul_add, ← Int.mul_add]
  congr 1
  rw [Int.mul_add, Int.mul_add, Int.mul_comm W hi, Int.mul_comm W c1, Int.mul_comm W c2]
  omega
 omega
theorem Z17 {l : List Int} {i k : Nat} (x : Int) (h : i ≠ k) : (l.set i x).getD k 0 = l.getD k 0 := by simp [List.getD, List.getElem?_set_ne h]
theorem high_room {W hi lo x y c s1 c1 s2 c2 o : Int} (hW : 1 < W) (hx : 0 ≤ x ∧ x ≤ W - 1) (hy : 0 ≤ y ∧ y ≤ W - 1) (hc : 0 ≤ c ∧ c ≤ W - 1) (ho : 0 ≤ o ∧ o ≤ W - 1) (h1 : hi * W + lo = x * y) (h2 : s1 + c1 * W = lo + c) (h3 : s2 + c2 * W = o + s1) (hs2 : 0 ≤ s2) : hi + c1 + c2 ≤ W - 1 := by
 have h4 : x * y ≤ (W - 1) * (W - 1) := Int.mul_le_mul ZO ZO hy.1 ZO
 have h5 : (hi + c1 + c2) * W ≤ (W - 1) * (W - 1) + (W - 1) + (W - 1) := by
  rw [Int.add_mul, Int.add_mul]; omega
 have h6 : (W - 1) * (W - 1) + (W - 1) + (W - 1) = W * W - 1 := by
  rw [Int.mul_sub, Int.sub_mul]; omega
 rcases Int.lt_or_le (hi + c1 + c2) W with h | h
 ·omega
 have : W * W ≤ (hi + c1 + c2) * W := Int.mul_le_mul_of_nonneg_right h ZO
 omega
theorem mulN (a b : Value) (la lb : List Int) (hUa : U la) (hUb : U lb) (hLa : la.length ≤ 1099511627776) (hLb : lb.length ≤ 1099511627776) (w : World) (ha : IV w a (ints .u64 la)) (hb : IV w b (ints .u64 lb)) :
  Z0f P 242 [a, b] w fun r w' => NatR w w' r (if 8192 < Ma.blen (nv la) ∨ 8192 < Ma.blen (nv lb) ∨ 8192 < Ma.blen (nv la * nv lb) then 21 else 0) (if 8192 < Ma.blen (nv la) ∨ 8192 < Ma.blen (nv lb) ∨ 8192 < Ma.blen (nv la * nv lb) then 0 else nv la * nv lb) := by
 refine Z0o func242 rfl ntmps242 rfl ?_
 have H0 := St.start w
 obtain ⟨A, ca, rfl, hca, hsa⟩ := ha
 have ha : IV w (.slice A (ints .u64 la).length ca) (ints .u64 la) := ⟨A, ca, rfl, hca, hsa⟩
 obtain ⟨A2, cb, rfl, hcb, hsb⟩ := hb
 have hb : IV w (.slice A2 (ints .u64 lb).length cb) (ints .u64 lb) := ⟨A2, cb, rfl, hcb, hsb⟩
 have hva := Z21 ha
 have hvb := Z21 hb
 have hta : (Ma.tr la).length ≤ la.length := (Ma.tr_take la).2.1
 have htb : (Ma.tr lb).length ≤ lb.length := (Ma.tr_take lb).2.1
 have hUa2 := hUa.tr
 have hUb2 := hUb.tr
 clear hsa hsb
 refine Z03 (Z00 (Zg (Zg (Z01 (Z02 ?_)))))
 refine Zk [0, 1] ?_
 refine Z03 (Z03 (Z00 (Zm ?_)))
 refine Zp func265 (Z4S A ca la hUa ZO w (H0.iarg ha)) ?_
 refine Zm ?_
 apply l_or 2 [0, 1] rfl rfl (.cons rfl (.cons rfl (.cons rfl .nil))) rfl rfl (fun _ => rfl) rfl rfl rfl
 ·intro hg1_3
  refine Zm ?_
  refine Zp func265 (Z4S A2 cb lb hUb ZO w (H0.iarg hb)) ?_
  refine Z01 ?_
  exact Z0O rfl (.cons rfl (ZF hg1_3) (.cons rfl rfl (.cons rfl rfl .nil)))
 refine Z01 (Z02 ?_)
 refine Zk [0, 1, 19] ?_
 (first | refine Z0c rfl ?_ ?_ | refine Z08 rfl ?_ ?_) <;> intro hc0
 ·have hbad : 8192 < Ma.blen (nv la) ∨ 8192 < Ma.blen (nv lb) := hc0
  refine Z03 (Z00 (Zg (Zg (Z01 (Z02 ?_)))))
  refine Zk [4, 5] ?_
  refine Z0i ?_
  refine Z07 ?_
  have H9 := H0.nil 24
  refine Z0P results242 rfl rfl ?_
  refine ⟨_, rfl, ?_⟩
  unfold NatR
  rw [if_pos (hbad.elim .inl fun h => .inr (.inl h)), if_pos (hbad.elim .inl fun h => .inr (.inl h))]
  exact ⟨_, _, rfl, Ma.Cn.nil, (H0.nil 24).grows⟩
 have hgood : ¬ (8192 < Ma.blen (nv la) ∨ 8192 < Ma.blen (nv lb)) := hc0
 refine Z0a (Z02 ?_)
 refine Zk [0, 1] ?_
 refine Z03 (Z00 (Zm ?_))
 refine Zp func264 (trim A ca la hUa ZO w (H0.iarg ha)) ?_
 refine Zm ?_
 refine Zp func264 (trim A2 cb lb hUb ZO w (H0.iarg hb)) ?_
 refine Zg (Zg (Z01 (Z02 ?_)))
 refine Zk [0, 1] ?_
 refine Z03 (Z00 (Zm ?_))
 refine Z0u rfl rfl underlying155 rfl (by first | exact H0.iarg hva | exact H0.iarg hvb | exact H0.iarg ha | exact H0.iarg hb | assumption) ?_
 refine Zm ?_
 refine Z0u rfl rfl underlying155 rfl (by first | exact H0.iarg hva | exact H0.iarg hvb | exact H0.iarg ha | exact H0.iarg hb | assumption) ?_
 refine Z0y rfl rfl rfl rfl (Z0l ZO) ?_
 refine Z1A (m := (Ma.tr la).length + (Ma.tr lb).length) (c := (Ma.tr la).length + (Ma.tr lb).length) H0 rfl rfl underlying155 ti24 rfl rfl rfl ZO ZO ZO ZO ZO (fun v4_5 w1 H1 => ?_)
 refine Zg (Z01 (Z02 ?_))
 refine Zk [0, 1, 6] ?_
 refine Z03 (Z03 (Z00 (Zm ?_)))
 refine Z0u rfl rfl underlying155 rfl (by first | exact H1.io mem0 | exact H1.iarg hva | exact H1.iarg hvb | exact H1.iarg ha | exact H1.iarg hb | assumption) ?_
 refine Zm (Z01 (Z02 ?_))
 refine Zk [0, 1, 6, 31, 32] ?_
 refine Z0d ?_
 refine Z0z (ι := Nat × List Int) (fun (z0 : Nat × List Int) => match z0 with | ⟨i, o⟩ => (Ma.tr la).length - i) (fun (z0 : Nat × List Int) (w' : World) => match z0 with | ⟨i, o⟩ => St w w.heap.size Z0J ([As.ri 24 .u64 v4_5 o]) w' ∧ i ≤ (Ma.tr la).length ∧ o.length = (Ma.tr la).length + (Ma.tr lb).length ∧ U o ∧ (∀ k, i + (Ma.tr lb).length ≤ k → o.getD k 0 = 0) ∧ nv o = nv ((Ma.tr la).take i) * nv (Ma.tr lb)) (fun (z0 : Nat × List Int) => match z0 with | ⟨i, o⟩ => [(32, .int .i64 (i : Int))]) [0, 1, 6, 31] (0, List.replicate ((Ma.tr la).length + (Ma.tr lb).length) 0) ?_ (.cons rfl (.cons rfl (.cons rfl (.cons rfl .nil)))) ?_ ?_
 ·refine ⟨?_, ZO, by simp, U.zeros _, (fun k hk => by simp [List.getD, List.getElem?_replicate]; split <;> rfl), by simp [Ma.vb, Ma.vb_zeros]⟩
  exact H1.cast (by rw [Z14])
 ·exact (.cons rfl ZN .nil)
 rintro ⟨i, o⟩ w2 ⟨H2, hi, hol, hUo, hz, hval⟩
 show RunC P _ _ _ (_ :: _) _
 refine Z03 (Z00 ?_)
 refine Zl ?_
 refine Z01 (Z02 (Z03 ?_))
 (first | refine Z0c rfl ?_ ?_ | refine Z08 rfl ?_ ?_) <;> intro hc1
 ·refine Z0a (Z02 ?_)
  refine Zk [0, 1, 6, 31, 32] ?_
  refine Z03 (Z0d (Z03 (Z00 (Zm (Zg (Z01 (Z02 ?_)))))))
  refine Zk [0, 1, 6, 7, 31, 32] ?_
  refine Z03 (Z00 (Zm (Zm (Zm (Zm ?_)))))
  refine Z0u rfl rfl underlying155 rfl (by first | exact H2.io mem0 | exact H2.iarg hva | exact H2.iarg hvb | exact H2.iarg ha | exact H2.iarg hb | assumption) ?_
  refine Z0y rfl rfl rfl rfl (Z0l ZO) ?_
  refine Z0y rfl rfl rfl rfl (Z0l ZO) ?_
  refine Zm (Zm ?_)
  refine Z0u rfl rfl underlying155 rfl (by first | exact H2.io mem0 | exact H2.iarg hva | exact H2.iarg hvb | exact H2.iarg ha | exact H2.iarg hb | assumption) ?_
  refine Z0y rfl rfl rfl rfl (Z0l ZO) ?_
  refine Z0y rfl rfl rfl rfl (Z0l ZO) ?_
  refine Z4F (l := i) (m := (Ma.tr lb).length + 1) (h := i + (Ma.tr lb).length + 1) rfl rfl underlying155 tz24 rfl rfl rfl rfl (by first | exact H2.io mem0 | exact H2.iarg hva | exact H2.iarg hvb | exact H2.iarg ha | exact H2.iarg hb | assumption) ZD ZD (.inr ZD) (by simp) ZO ZI ZO (fun A8_12 c8_12 d8_12 h8_12 hc8_12 => ?_)
  refine Zg (Z01 (Z02 ?_))
  refine Zk [0, 1, 6, 7, 8, 31, 32] ?_
  refine Z03 (Z00 (Zg (Z01 (Z02 (Z03 (Z03 (Z00 (Zm ?_))))))))
  refine Z0u rfl rfl underlying155 rfl (by first | exact H2.io mem0 | exact H2.iarg hva | exact H2.iarg hvb | exact H2.iarg ha | exact H2.iarg hb | assumption) ?_
  refine Zm (Z01 (Z02 ?_))
  refine Zk [0, 1, 6, 7, 8, 9, 31, 32, 49, 50] ?_
  refine Z0d ?_
  refine Z0z (ι := Nat × List Int × Int) (fun (z0 : Nat × List Int × Int) => match z0 with | ⟨j, o', c⟩ => (Ma.tr lb).length - j) (fun (z0 : Nat × List Int × Int) (w' : World) => match z0 with | ⟨j, o', c⟩ => St w w.heap.size Z0J ([As.ri 24 .u64 v4_5 o']) w' ∧ j ≤ (Ma.tr lb).length ∧ o'.length = (Ma.tr la).length + (Ma.tr lb).length ∧ U o' ∧ 0 ≤ c ∧ c ≤ 18446744073709551615 ∧ (∀ k, i + (Ma.tr lb).length ≤ k → o'.getD k 0 = 0) ∧ nv o' + 18446744073709551616 ^ (i + j) * c = nv ((Ma.tr la).take i) * nv (Ma.tr lb) + 18446744073709551616 ^ i * (Ma.tr la).getD i 0 * nv ((Ma.tr lb).take j)) (fun (z0 : Nat × List Int × Int) => match z0 with | ⟨j, o', c⟩ => [(9, .int .u64 c), (50, .int .i64 (j : Int))]) [0, 1, 6, 7, 8, 31, 32, 49] (0, o, 0) ?_ (.cons rfl (.cons rfl (.cons rfl (.cons rfl (.cons rfl (.cons rfl (.cons rfl (.cons rfl .nil)))))))) ?_ ?_
  ·exact ⟨H2, ZO, hol, hUo, ZO, ZO, hz, by rw [hval]; simp [Ma.vb]⟩
  ·exact (.cons rfl ZN (.cons rfl ZN .nil))
  rintro ⟨j, o', c⟩ w3 ⟨H3, hj, hol', hUo', hc1, hc2, hz', hval'⟩
  show RunC P _ _ _ (_ :: _) _
  refine Z03 (Z00 ?_)
  refine Zl ?_
  refine Z01 (Z02 (Z03 ?_))
  (first | refine Z0c rfl ?_ ?_ | refine Z08 rfl ?_ ?_) <;> intro hc2
  ·refine Z0a (Z02 ?_)
   refine Zk [0, 1, 6, 7, 8, 9, 31, 32, 49, 50] ?_
   refine Z03 (Z0d (Z03 (Z00 (Zm (Zg (Z01 (Z02 ?_)))))))
   refine Zk [0, 1, 6, 7, 8, 9, 10, 31, 32, 49, 50] ?_
   refine Z03 ?_
   refine Z2F ZK ZK ?_
   have H4 := H3.drewn
   refine Zm (Zm ?_)
   refine Z0T rfl rfl rfl rfl underlying155 tz24 underlying24 rfl rfl (by first | exact H4.io mem0 | exact H4.iarg hva | exact H4.iarg hvb | exact H4.iarg ha | exact H4.iarg hb | assumption) ZA rfl rfl ZI (fun hb13_2 => ?_)
   refine Zm (Zm ?_)
   refine Z0T rfl rfl rfl rfl underlying155 tz24 underlying24 rfl rfl (by first | exact H4.io mem0 | exact H4.iarg hva | exact H4.iarg hvb | exact H4.iarg ha | exact H4.iarg hb | assumption) ZA rfl rfl ZI (fun hb13_6 => ?_)
   refine Z13 rfl rfl func269 rfl rfl (.cons rfl (.cons rfl .nil)) (mul64 _ _ ZA ZA _) ?_
   refine Zm ?_
   refine Zx (Zx (Zg (Zg (Z01 (Z02 ?_)))))
   refine Zk [0, 1, 6, 7, 8, 9, 10, 11, 12, 31, 32, 49, 50] ?_
   refine Z03 (Z00 ?_)
   have e1 : (Ma.tr la).getD i 0 * (Ma.tr lb).getD j 0 / 18446744073709551616 * 18446744073709551616 + (Ma.tr la).getD i 0 * (Ma.tr lb).getD j 0 % 18446744073709551616 = (Ma.tr la).getD i 0 * (Ma.tr lb).getD j 0 := by omega
   have hxy := Z23 (a := (Ma.tr la).getD i 0) (b := (Ma.tr lb).getD j 0) (x := 18446744073709551616) (y := 18446744073709551616) ZO ZO
   have hlo : 0 ≤ (Ma.tr la).getD i 0 * (Ma.tr lb).getD j 0 % 18446744073709551616 ∧ (Ma.tr la).getD i 0 * (Ma.tr lb).getD j 0 % 18446744073709551616 ≤ 18446744073709551616 - 1 := by omega
   have hhi : 0 ≤ (Ma.tr la).getD i 0 * (Ma.tr lb).getD j 0 / 18446744073709551616 ∧ (Ma.tr la).getD i 0 * (Ma.tr lb).getD j 0 / 18446744073709551616 ≤ 18446744073709551616 - 2 := by omega
   generalize (Ma.tr la).getD i 0 * (Ma.tr lb).getD j 0 / 18446744073709551616 = hi at *
   generalize (Ma.tr la).getD i 0 * (Ma.tr lb).getD j 0 % 18446744073709551616 = lo at *
   refine Zm (Zm ?_)
   refine Z25 rfl rfl func266 rfl rfl rfl rfl (.cons rfl (.cons rfl (.cons rfl .nil))) (run_add64 _ _ _ hlo.1 hc1 ZO ZO _) ?_
   refine Zm ?_
   refine Zx (Zx (Zg (Zg (Z01 (Z02 ?_)))))
   refine Zk [0, 1, 6, 7, 8, 10, 11, 12, 13, 31, 32, 49, 50] ?_
   refine Z03 (Z00 ?_)
   have e2 : (lo + c + 0) % 18446744073709551616 + (lo + c + 0) / 18446744073709551616 * 18446744073709551616 = lo + c := by omega
   have hs1 : 0 ≤ (lo + c + 0) % 18446744073709551616 ∧ (lo + c + 0) % 18446744073709551616 ≤ 18446744073709551615 := by omega
   have hcc1 : 0 ≤ (lo + c + 0) / 18446744073709551616 ∧ (lo + c + 0) / 18446744073709551616 ≤ 1 := by omega
   generalize (lo + c + 0) % 18446744073709551616 = s1 at *
   generalize (lo + c + 0) / 18446744073709551616 = c1 at *
   refine Zm (Zm ?_)
   refine Z0y rfl rfl rfl rfl (Z1p ZO) ?_
   refine Zg (Z01 (Z02 ?_))
   refine Zk [0, 1, 6, 7, 8, 10, 11, 12, 31, 32, 49, 50] ?_
   refine Z03 (Z00 (Zm (Zm (Zm (Zm ?_)))))
   refine v_getw (j := j) (l := i) rfl rfl rfl rfl underlying155 tz24 underlying24 rfl rfl h8_12 (by first | exact H4.io mem0 | exact H4.iarg hva | exact H4.iarg hvb | exact H4.iarg ha | exact H4.iarg hb | assumption) ZI hc8_12 ZA rfl ZP ZO (fun hb16_4 => ?_)
   refine Zm ?_
   refine Z25 rfl rfl func266 rfl rfl rfl rfl (.cons rfl (.cons rfl (.cons rfl .nil))) (run_add64 _ _ _ hb16_4.1 hs1.1 ZO ZO _) ?_
   refine Zm ?_
   refine Zx (Zx ?_)
   refine Z3E (j := j) (l := i) rfl rfl underlying155 tz24 rfl rfl h8_12 (by first | exact H4.io mem0 | exact H4.iarg hva | exact H4.iarg hvb | exact H4.iarg ha | exact H4.iarg hb | assumption) ZI ZP ZO ?_
   refine Z1U H4 .head h8_12 ZB rfl tz24 rfl rfl ZI (fun w5 H5 => ?_)
   refine Zg (Z01 (Z02 ?_))
   refine Zk [0, 1, 6, 7, 8, 11, 13, 31, 32, 49, 50] ?_
   refine Z00 ?_
   have e3 : (o'.getD (i + j) 0 + s1 + 0) % 18446744073709551616 + (o'.getD (i + j) 0 + s1 + 0) / 18446744073709551616 * 18446744073709551616 = o'.getD (i + j) 0 + s1 := by omega
   have hs2 : 0 ≤ (o'.getD (i + j) 0 + s1 + 0) % 18446744073709551616 ∧ (o'.getD (i + j) 0 + s1 + 0) % 18446744073709551616 ≤ 18446744073709551615 := by omega
   have hcc2 : 0 ≤ (o'.getD (i + j) 0 + s1 + 0) / 18446744073709551616 ∧ (o'.getD (i + j) 0 + s1 + 0) / 18446744073709551616 ≤ 1 := by omega
   generalize (o'.getD (i + j) 0 + s1 + 0) % 18446744073709551616 = s2 at *
   generalize (o'.getD (i + j) 0 + s1 + 0) / 18446744073709551616 = c2 at *
   have hroom := high_room (W := 18446744073709551616) (x := (Ma.tr la).getD i 0) (y := (Ma.tr lb).getD j 0) ZO ZO ZO (c := c) ZO (o := o'.getD (i + j) 0) ZO e1 e2 e3 hs2.1
   refine Zm (Zm ?_)
   refine Z0y rfl rfl rfl rfl (Z1p ZO) ?_
   refine Zg (Z01 ?_)
   refine Z0F ?_
   refine Z02 ?_
   refine Zk [0, 1, 6, 7, 8, 9, 31, 32, 49, 50] ?_
   refine Z00 ?_
   refine Z0y rfl rfl rfl rfl (Z0l ZO) ?_
   refine Zm (Z01 ?_)
   refine Z0p (i := (j, o', c)) (j + 1, o'.set (i + j) s2, hi + c1 + c2) ?_ ?_ (.cons rfl (.cons rfl (.cons rfl (.cons rfl (.cons rfl (.cons rfl (.cons rfl (.cons rfl .nil)))))))) ?_
   ·first | omega | (simp; omega)
   ·have h1 := Ma.vb_set_at 18446744073709551616 o' (i + j) s2 ZO
    have h2 := Ma.vb_take_succ 18446744073709551616 (Ma.tr lb) j
    have h3 := mul_place (W := 18446744073709551616) (p := 18446744073709551616 ^ (i + j)) ZO hval' e1 e2 e3
    refine ⟨H5, ZO, by simpa using hol', hUo'.set ZO _, ZO, ZO, fun k hk => by rw [Z17 _ ZO]; exact hz' k hk, ?_⟩
    show Ma.vb _ _ + _ = _ + _ * Ma.vb _ _
    rw [h1, h2, ← Nat.add_assoc, Int.pow_succ, h3, Int.pow_add, Int.mul_add, ← Int.add_assoc]
    congr 1
    rw [Int.mul_assoc, Int.mul_assoc, Int.mul_left_comm ((Ma.tr la).getD i 0)]
   exact (.cons rfl ZN (.cons rfl ZN .nil))
  refine Z0H ?_
  refine Z06 ?_
  refine Z06 ?_
  refine Z0h ?_
  refine Z02 ?_
  refine Zk [0, 1, 6, 8, 9, 31, 32] ?_
  refine Z00 (Zm (Zm ?_))
  refine Z0u rfl rfl underlying155 rfl (by first | exact H3.io mem0 | exact H3.iarg hva | exact H3.iarg hvb | exact H3.iarg ha | exact H3.iarg hb | assumption) ?_
  refine Zm ?_
  refine Z3E (j := (Ma.tr lb).length) (l := i) rfl rfl underlying155 tz24 rfl rfl h8_12 (by first | exact H3.io mem0 | exact H3.iarg hva | exact H3.iarg hvb | exact H3.iarg ha | exact H3.iarg hb | assumption) ZI ZP ZO ?_
  refine Z1U H3 .head h8_12 ZB rfl tz24 rfl rfl ZI (fun w6 H6 => ?_)
  refine Z01 ?_
  refine Z0F ?_
  refine Z02 ?_
  refine Zk [0, 1, 6, 31, 32] ?_
  refine Z00 ?_
  refine Z0y rfl rfl rfl rfl (Z0l ZO) ?_
  refine Zm (Z01 ?_)
  refine Z0p (i := (i, o)) (i + 1, o'.set (i + (Ma.tr lb).length) c) ?_ ?_ (.cons rfl (.cons rfl (.cons rfl (.cons rfl .nil)))) ?_
  ·first | omega | (simp; omega)
  ·obtain rfl : j = (Ma.tr lb).length := by omega
   have h1 := Ma.vb_set_at 18446744073709551616 o' (i + (Ma.tr lb).length) c ZO
   rw [hz' _ (Nat.le_refl _), Int.sub_zero] at h1
   refine ⟨H6, ZO, by simpa using hol', hUo'.set ZO _, fun k hk => by rw [Z17 _ ZO]; exact hz' k ZO, ?_⟩
   show Ma.vb _ _ = Ma.vb _ _ * _
   rw [Ma.vb_take_succ, h1, Int.add_mul]
   rw [List.take_length] at hval'
   exact hval'
  exact (.cons rfl ZN .nil)
 refine Z0H ?_
 refine Z06 ?_
 refine Z06 ?_
 refine Z0h ?_
 refine Z02 ?_
 refine Zk [6] ?_
 refine Z03 (Z00 (Zm ?_))
 refine Zc func268 (Z6z hUo ZO (H2.io mem0)) ?_
 rintro _ w7 ⟨v', ls, rfl, hcn, hT⟩
 have H7 := hT _ _ _ _ _ .head H2
 refine Zx (Zx (Zg (Zg (Z01 (Z02 ?_)))))
 refine Zk [4, 5] ?_
 refine Z0i ?_
 refine Z0P results242 rfl rfl ?_
 refine ⟨_, rfl, ?_⟩
 obtain rfl : i = (Ma.tr la).length := by omega
 rw [List.take_length, Z3M, Z3M] at hval
 rw [hval] at hcn ⊢
 unfold NatR
 by_cases hC : 8192 < Ma.blen (nv la * nv lb)
 ·rw [if_pos hC] at hcn ⊢
  rw [if_pos (.inr (.inr hC)), if_pos (.inr (.inr hC))]
  exact ⟨_, _, rfl, hcn, H7.grows⟩
 rw [if_neg hC] at hcn ⊢
 have hn : ¬ (8192 < Ma.blen (nv la) ∨ 8192 < Ma.blen (nv lb) ∨ 8192 < Ma.blen (nv la * nv lb)) := fun h => h.elim (fun h => hgood (.inl h)) fun h => h.elim (fun h => hgood (.inr h)) hC
 rw [if_neg hn, if_neg hn]
 exact ⟨_, _, rfl, hcn, H7.grows⟩
end Go.Proofs.YtgjgahmhoflgcaaGreatDoor.W
