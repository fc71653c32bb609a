/- walk of nat.Mul -/
import Derived.Test.YtgfkagaacdblbaaFa
import Derived.Test.YtgfkagaacdblbaaVe
set_option linter.unusedVariables false
set_option linter.unusedSimpArgs false
set_option maxRecDepth 10000
namespace Go.Proofs.Ytgfkagaacdblbaa.W
open Go.Vc Go.RowKit
theorem mul_place {W p V c A x y o hi lo s1 c1 s2 c2 : Int} (hW : 0 < W) (h : V + p * c = A) (h1 : hi * W + lo = x * y) (h2 : s1 + c1 * W = lo + c) (h3 : s2 + c2 * W = o + s1) :
  (V + p * (s2 - o)) + (p * W) * (hi + c1 + c2) = A + p * (x * y) := by
 have e : p * (s2 - o) + (p * W) * (hi + c1 + c2) = p * (x * y) + p * c := by
  rw [Int.mul_assoc, ← Int.mul_add, ← Int.mul_add]
  congr 1
  rw [Int.mul_add, Int.mul_add, Int.mul_comm W hi, Int.mul_comm W c1, Int.mul_comm W c2]
  omega
 omega
theorem getD_set_ne {l : List Int} {i k : Nat} (x : Int) (h : i ≠ k) : (l.set i x).getD k 0 = l.getD k 0 := by simp [List.getD, List.getElem?_set_ne h]
theorem high_room {W hi lo x y c s1 c1 s2 c2 o : Int} (hW : 1 < W) (hx : 0 ≤ x ∧ x ≤ W - 1) (hy : 0 ≤ y ∧ y ≤ W - 1) (hc : 0 ≤ c ∧ c ≤ W - 1) (ho : 0 ≤ o ∧ o ≤ W - 1) (h1 : hi * W + lo = x * y) (h2 : s1 + c1 * W = lo + c) (h3 : s2 + c2 * W = o + s1) (hs2 : 0 ≤ s2) : hi + c1 + c2 ≤ W - 1 := by
 have h4 : x * y ≤ (W - 1) * (W - 1) := Int.mul_le_mul (by omega) (by omega) hy.1 (by omega)
 have h5 : (hi + c1 + c2) * W ≤ (W - 1) * (W - 1) + (W - 1) + (W - 1) := by
  rw [Int.add_mul, Int.add_mul]; omega
 have h6 : (W - 1) * (W - 1) + (W - 1) + (W - 1) = W * W - 1 := by
  rw [Int.mul_sub, Int.sub_mul]; omega
 rcases Int.lt_or_le (hi + c1 + c2) W with h | h
 ·omega
 ·have : W * W ≤ (hi + c1 + c2) * W := Int.mul_le_mul_of_nonneg_right h (by omega)
  omega
theorem mulN (a b : Value) (la lb : List Int) (hUa : U la) (hUb : U lb) (hLa : la.length ≤ 1099511627776) (hLb : lb.length ≤ 1099511627776) (w : World) (ha : IV w a (ints .u64 la)) (hb : IV w b (ints .u64 lb)) :
  CallsV P 70 [a, b] w fun r w' => NatR w w' r (if 8192 < Ma.blen (nv la) ∨ 8192 < Ma.blen (nv lb) ∨ 8192 < Ma.blen (nv la * nv lb) then 21 else 0) (if 8192 < Ma.blen (nv la) ∨ 8192 < Ma.blen (nv lb) ∨ 8192 < Ma.blen (nv la * nv lb) then 0 else nv la * nv lb) := by
 refine enterW Try.func70 rfl Try.ntmps70 rfl ?_
 have hw0 := St.start w
 obtain ⟨A, ca, rfl, hca, hsa⟩ := ha
 have ha : IV w (.slice A (ints .u64 la).length ca) (ints .u64 la) := ⟨A, ca, rfl, hca, hsa⟩
 obtain ⟨A2, cb, rfl, hcb, hsb⟩ := hb
 have hb : IV w (.slice A2 (ints .u64 lb).length cb) (ints .u64 lb) := ⟨A2, cb, rfl, hcb, hsb⟩
 have hva := trim_iv ha
 have hvb := trim_iv hb
 have hta : (Ma.tr la).length ≤ la.length := (Ma.tr_take la).2.1
 have htb : (Ma.tr lb).length ≤ lb.length := (Ma.tr_take lb).2.1
 have hUa2 := hUa.tr
 have hUb2 := hUb.tr
 clear hsa hsb
 refine c_seq (c_region (l_assign rfl rfl rfl (l_assign rfl rfl rfl (l_nil (e_then ?_)))))
 refine c_keep [0, 1] (.cons rfl (.cons rfl .nil)) ?_
 refine c_seq (c_seq (c_region (l_move rfl rfl rfl ?_)))
 refine l_callp rfl rfl Try.func75 rfl rfl (.cons rfl .nil) (longN A ca la hUa (by omega) w (hw0.iarg ha)) ?_
 refine l_move rfl rfl rfl ?_
 apply l_or 2 [0, 1] rfl rfl (.cons rfl (.cons rfl (.cons rfl .nil))) rfl rfl (fun _ => rfl) rfl rfl rfl
 ·intro hg1_3
  refine l_move rfl rfl rfl ?_
  refine l_callp rfl rfl Try.func75 rfl rfl (.cons rfl .nil) (longN A2 cb lb hUb (by omega) w (hw0.iarg hb)) ?_
  refine l_nil ?_
  exact e_stays rfl (.cons rfl (congrArg Value.bool (decide_eq_false hg1_3).symm) (.cons rfl rfl (.cons rfl rfl .nil)))
 refine l_nil (e_then ?_)
 refine c_keep [0, 1, 19] (.cons rfl (.cons rfl (.cons rfl .nil))) ?_
 first | refine c_cond rfl (fun hc0 => ?_) (fun hc0 => ?_) | refine c_condb rfl (fun hc0 => ?_) (fun hc0 => ?_)
 ·skip
  have hbad : 8192 < Ma.blen (nv la) ∨ 8192 < Ma.blen (nv lb) := hc0
  refine c_seq (c_region (l_assign rfl rfl rfl (l_assign rfl rfl rfl (l_nil (e_then ?_)))))
  refine c_keep [4, 5] (.cons rfl (.cons rfl .nil)) ?_
  refine c_ret ?_
  refine e_then_ret ?_
  have hw9 := hw0.nil 75
  refine e_done2 Try.results70 rfl rfl ?_
  refine ⟨_, rfl, ?_⟩
  unfold NatR
  rw [if_pos (hbad.elim .inl fun h => .inr (.inl h)), if_pos (hbad.elim .inl fun h => .inr (.inl h))]
  exact ⟨_, _, rfl, Ma.Cn.nil, (hw0.nil 75).grows⟩
 ·skip
  have hgood : ¬ (8192 < Ma.blen (nv la) ∨ 8192 < Ma.blen (nv lb)) := hc0
  refine c_skip (e_then ?_)
  refine c_keep [0, 1] (.cons rfl (.cons rfl .nil)) ?_
  refine c_seq (c_region (l_move rfl rfl rfl ?_))
  refine l_callp rfl rfl Try.func73 rfl rfl (.cons rfl .nil) (trim A ca la hUa (by omega) w (hw0.iarg ha)) ?_
  refine l_move rfl rfl rfl ?_
  refine l_callp rfl rfl Try.func73 rfl rfl (.cons rfl .nil) (trim A2 cb lb hUb (by omega) w (hw0.iarg hb)) ?_
  refine l_assign rfl rfl rfl (l_assign rfl rfl rfl (l_nil (e_then ?_)))
  refine c_keep [0, 1] (.cons rfl (.cons rfl .nil)) ?_
  refine c_seq (c_region (l_move rfl rfl rfl ?_))
  refine v_leni rfl rfl Try.underlying95 rfl (by first | exact hw0.iarg hva | exact hw0.iarg hvb | exact hw0.iarg ha | exact hw0.iarg hb | assumption) ?_
  refine l_move rfl rfl rfl ?_
  refine v_leni rfl rfl Try.underlying95 rfl (by first | exact hw0.iarg hva | exact hw0.iarg hvb | exact hw0.iarg ha | exact hw0.iarg hb | assumption) ?_
  refine l_add rfl rfl rfl rfl (w_i64 (by omega)) ?_
  refine v_make (m := (Ma.tr la).length + (Ma.tr lb).length) (c := (Ma.tr la).length + (Ma.tr lb).length) hw0 rfl rfl Try.underlying95 ti75 rfl rfl rfl (by omega) (by omega) (by omega) (by omega) (by omega) (fun v4_5 w1 hw1 => ?_)
  try clear hw0
  refine l_assign rfl rfl rfl (l_nil (e_then ?_))
  refine c_keep [0, 1, 6] (.cons rfl (.cons rfl (.cons rfl .nil))) ?_
  refine c_seq (c_seq (c_region (l_move rfl rfl rfl ?_)))
  refine v_leni rfl rfl Try.underlying95 rfl (by first | exact hw1.io mem0 | exact hw1.iarg hva | exact hw1.iarg hvb | exact hw1.iarg ha | exact hw1.iarg hb | assumption) ?_
  refine l_move rfl rfl rfl (l_nil (e_then ?_))
  refine c_keep [0, 1, 6, 31, 32] (.cons rfl (.cons rfl (.cons rfl (.cons rfl (.cons rfl .nil))))) ?_
  refine c_block ?_
  refine c_loopk (ι := Nat × List Int) (fun (z0 : Nat × List Int) => match z0 with | ⟨i, o⟩ => (Ma.tr la).length - i) (fun (z0 : Nat × List Int) (w' : World) => match z0 with | ⟨i, o⟩ => St w w.heap.size None' ([As.ri 75 .u64 v4_5 o]) w' ∧ i ≤ (Ma.tr la).length ∧ o.length = (Ma.tr la).length + (Ma.tr lb).length ∧ U o ∧ (∀ k, i + (Ma.tr lb).length ≤ k → o.getD k 0 = 0) ∧ nv o = nv ((Ma.tr la).take i) * nv (Ma.tr lb)) (fun (z0 : Nat × List Int) => match z0 with | ⟨i, o⟩ => [(32, .int .i64 (i : Int))]) [0, 1, 6, 31] (0, List.replicate ((Ma.tr la).length + (Ma.tr lb).length) 0) ?_ (.cons rfl (.cons rfl (.cons rfl (.cons rfl .nil)))) ?_ ?_
  ·refine ⟨?_, by omega, by simp, U.zeros _, (fun k hk => by simp [List.getD, List.getElem?_replicate]; split <;> rfl), by simp [Ma.vb, Ma.vb_zeros]⟩
   exact hw1.cast (by rw [ints_replicate])
  ·exact (.cons rfl (by first | rfl | (refine congrArg (Value.int _) ?_; omega)) .nil)
  rintro ⟨i, o⟩ w2 ⟨hw2, hi, hol, hUo, hz, hval⟩
  show RunC P _ _ _ (_ :: _) _
  refine c_seq (c_region ?_)
  refine l_lss rfl rfl rfl rfl ?_
  refine l_nil (e_then (c_seq ?_))
  first | refine c_cond rfl (fun hc1 => ?_) (fun hc1 => ?_) | refine c_condb rfl (fun hc1 => ?_) (fun hc1 => ?_)
  ·skip
   refine c_skip (e_then ?_)
   refine c_keep [0, 1, 6, 31, 32] (.cons rfl (.cons rfl (.cons rfl (.cons rfl (.cons rfl .nil))))) ?_
   refine c_seq (c_block (c_seq (c_region (l_move rfl rfl rfl (l_assign rfl rfl rfl ?_)))))
   refine l_nil (e_then ?_)
   refine c_keep [0, 1, 6, 7, 31, 32] (.cons rfl (.cons rfl (.cons rfl (.cons rfl (.cons rfl (.cons rfl .nil)))))) ?_
   refine c_seq (c_region (l_move rfl rfl rfl (l_move rfl rfl rfl (l_move rfl rfl rfl (l_move rfl rfl rfl ?_)))))
   refine v_leni rfl rfl Try.underlying95 rfl (by first | exact hw2.io mem0 | exact hw2.iarg hva | exact hw2.iarg hvb | exact hw2.iarg ha | exact hw2.iarg hb | assumption) ?_
   refine l_add rfl rfl rfl rfl (w_i64 (by omega)) ?_
   refine l_add rfl rfl rfl rfl (w_i64 (by omega)) ?_
   refine l_move rfl rfl rfl (l_move rfl rfl rfl ?_)
   refine v_leni rfl rfl Try.underlying95 rfl (by first | exact hw2.io mem0 | exact hw2.iarg hva | exact hw2.iarg hvb | exact hw2.iarg ha | exact hw2.iarg hb | assumption) ?_
   refine l_add rfl rfl rfl rfl (w_i64 (by omega)) ?_
   refine l_add rfl rfl rfl rfl (w_i64 (by omega)) ?_
   refine v_window (l := i) (m := (Ma.tr lb).length + 1) (h := i + (Ma.tr lb).length + 1) rfl rfl Try.underlying95 tz75 rfl rfl rfl rfl (by first | exact hw2.io mem0 | exact hw2.iarg hva | exact hw2.iarg hvb | exact hw2.iarg ha | exact hw2.iarg hb | assumption) (by first | rfl | (simp; done) | (simp; omega)) (by first | rfl | (simp; done) | (simp; omega)) (.inr (by first | rfl | (simp; done) | (simp; omega))) (by simp) (by omega) (by first | omega | (simp; done) | (simp; omega)) (by omega) (fun A8_12 c8_12 d8_12 h8_12 hc8_12 => ?_)
   refine l_assign rfl rfl rfl (l_nil (e_then ?_))
   refine c_keep [0, 1, 6, 7, 8, 31, 32] (.cons rfl (.cons rfl (.cons rfl (.cons rfl (.cons rfl (.cons rfl (.cons rfl .nil))))))) ?_
   refine c_seq (c_region (l_assign rfl rfl rfl (l_nil (e_then (c_seq ?_)))))
   refine c_seq (c_region (l_move rfl rfl rfl ?_))
   refine v_leni rfl rfl Try.underlying95 rfl (by first | exact hw2.io mem0 | exact hw2.iarg hva | exact hw2.iarg hvb | exact hw2.iarg ha | exact hw2.iarg hb | assumption) ?_
   refine l_move rfl rfl rfl (l_nil (e_then ?_))
   refine c_keep [0, 1, 6, 7, 8, 9, 31, 32, 49, 50] (.cons rfl (.cons rfl (.cons rfl (.cons rfl (.cons rfl (.cons rfl (.cons rfl (.cons rfl (.cons rfl (.cons rfl .nil)))))))))) ?_
   refine c_block ?_
   refine c_loopk (ι := Nat × List Int × Int) (fun (z0 : Nat × List Int × Int) => match z0 with | ⟨j, o', c⟩ => (Ma.tr lb).length - j) (fun (z0 : Nat × List Int × Int) (w' : World) => match z0 with | ⟨j, o', c⟩ => St w w.heap.size None' ([As.ri 75 .u64 v4_5 o']) w' ∧ j ≤ (Ma.tr lb).length ∧ o'.length = (Ma.tr la).length + (Ma.tr lb).length ∧ U o' ∧ 0 ≤ c ∧ c ≤ 18446744073709551615 ∧ (∀ k, i + (Ma.tr lb).length ≤ k → o'.getD k 0 = 0) ∧ nv o' + 18446744073709551616 ^ (i + j) * c = nv ((Ma.tr la).take i) * nv (Ma.tr lb) + 18446744073709551616 ^ i * (Ma.tr la).getD i 0 * nv ((Ma.tr lb).take j)) (fun (z0 : Nat × List Int × Int) => match z0 with | ⟨j, o', c⟩ => [(9, .int .u64 c), (50, .int .i64 (j : Int))]) [0, 1, 6, 7, 8, 31, 32, 49] (0, o, 0) ?_ (.cons rfl (.cons rfl (.cons rfl (.cons rfl (.cons rfl (.cons rfl (.cons rfl (.cons rfl .nil)))))))) ?_ ?_
   ·exact ⟨hw2, by omega, hol, hUo, by omega, by omega, hz, by rw [hval]; simp [Ma.vb]⟩
   ·exact (.cons rfl (by first | rfl | (refine congrArg (Value.int _) ?_; omega)) (.cons rfl (by first | rfl | (refine congrArg (Value.int _) ?_; omega)) .nil))
   rintro ⟨j, o', c⟩ w3 ⟨hw3, hj, hol', hUo', hc1, hc2, hz', hval'⟩
   show RunC P _ _ _ (_ :: _) _
   refine c_seq (c_region ?_)
   refine l_lss rfl rfl rfl rfl ?_
   refine l_nil (e_then (c_seq ?_))
   first | refine c_cond rfl (fun hc2 => ?_) (fun hc2 => ?_) | refine c_condb rfl (fun hc2 => ?_) (fun hc2 => ?_)
   ·skip
    refine c_skip (e_then ?_)
    refine c_keep [0, 1, 6, 7, 8, 9, 31, 32, 49, 50] (.cons rfl (.cons rfl (.cons rfl (.cons rfl (.cons rfl (.cons rfl (.cons rfl (.cons rfl (.cons rfl (.cons rfl .nil)))))))))) ?_
    refine c_seq (c_block (c_seq (c_region (l_move rfl rfl rfl (l_assign rfl rfl rfl ?_)))))
    refine l_nil (e_then ?_)
    refine c_keep [0, 1, 6, 7, 8, 9, 10, 31, 32, 49, 50] (.cons rfl (.cons rfl (.cons rfl (.cons rfl (.cons rfl (.cons rfl (.cons rfl (.cons rfl (.cons rfl (.cons rfl (.cons rfl .nil))))))))))) ?_
    refine c_seq ?_
    refine c_still (by kernel_rfl) (by kernel_rfl) ?_
    have hw4 := hw3.drewn
    try clear hw3
    refine l_move rfl rfl rfl (l_move rfl rfl rfl ?_)
    refine v_getr rfl rfl rfl rfl Try.underlying95 tz75 Try.underlying75 rfl rfl (by first | exact hw4.io mem0 | exact hw4.iarg hva | exact hw4.iarg hvb | exact hw4.iarg ha | exact hw4.iarg hb | assumption) (by assumption) rfl rfl (by first | omega | (simp; done) | (simp; omega)) (fun hb13_2 => ?_)
    refine l_move rfl rfl rfl (l_move rfl rfl rfl ?_)
    refine v_getr rfl rfl rfl rfl Try.underlying95 tz75 Try.underlying75 rfl rfl (by first | exact hw4.io mem0 | exact hw4.iarg hva | exact hw4.iarg hvb | exact hw4.iarg ha | exact hw4.iarg hb | assumption) (by assumption) rfl rfl (by first | omega | (simp; done) | (simp; omega)) (fun hb13_6 => ?_)
    refine l_callp rfl rfl Try.func85 rfl rfl (.cons rfl (.cons rfl .nil)) (mul64 _ _ (by assumption) (by assumption) _) ?_
    refine l_move rfl rfl rfl (l_extract rfl rfl rfl rfl (l_extract rfl rfl rfl rfl (l_assign rfl rfl rfl (l_assign rfl rfl rfl (l_nil ?_)))))
    refine e_then ?_
    refine c_keep [0, 1, 6, 7, 8, 9, 10, 11, 12, 31, 32, 49, 50] (.cons rfl (.cons rfl (.cons rfl (.cons rfl (.cons rfl (.cons rfl (.cons rfl (.cons rfl (.cons rfl (.cons rfl (.cons rfl (.cons rfl (.cons rfl .nil))))))))))))) ?_
    refine c_seq (c_region ?_)
    have e1 : (Ma.tr la).getD i 0 * (Ma.tr lb).getD j 0 / 18446744073709551616 * 18446744073709551616 + (Ma.tr la).getD i 0 * (Ma.tr lb).getD j 0 % 18446744073709551616 = (Ma.tr la).getD i 0 * (Ma.tr lb).getD j 0 := by omega
    have hxy := mul_lt (a := (Ma.tr la).getD i 0) (b := (Ma.tr lb).getD j 0) (x := 18446744073709551616) (y := 18446744073709551616) (by omega) (by omega)
    have hlo : 0 ≤ (Ma.tr la).getD i 0 * (Ma.tr lb).getD j 0 % 18446744073709551616 ∧ (Ma.tr la).getD i 0 * (Ma.tr lb).getD j 0 % 18446744073709551616 ≤ 18446744073709551616 - 1 := by omega
    have hhi : 0 ≤ (Ma.tr la).getD i 0 * (Ma.tr lb).getD j 0 / 18446744073709551616 ∧ (Ma.tr la).getD i 0 * (Ma.tr lb).getD j 0 / 18446744073709551616 ≤ 18446744073709551616 - 2 := by omega
    generalize (Ma.tr la).getD i 0 * (Ma.tr lb).getD j 0 / 18446744073709551616 = hi at *
    generalize (Ma.tr la).getD i 0 * (Ma.tr lb).getD j 0 % 18446744073709551616 = lo at *
    refine l_move rfl rfl rfl (l_move rfl rfl rfl ?_)
    refine l_extern rfl rfl Try.func80 rfl rfl rfl rfl (.cons rfl (.cons rfl (.cons rfl .nil))) (run_add64 _ _ _ hlo.1 hc1 (by omega) (by omega) _) ?_
    refine l_move rfl rfl rfl (l_extract rfl rfl rfl rfl (l_extract rfl rfl rfl rfl (l_assign rfl rfl rfl (l_assign rfl rfl rfl (l_nil ?_)))))
    refine e_then ?_
    refine c_keep [0, 1, 6, 7, 8, 10, 11, 12, 13, 31, 32, 49, 50] (.cons rfl (.cons rfl (.cons rfl (.cons rfl (.cons rfl (.cons rfl (.cons rfl (.cons rfl (.cons rfl (.cons rfl (.cons rfl (.cons rfl (.cons rfl .nil))))))))))))) ?_
    refine c_seq (c_region ?_)
    have e2 : (lo + c + 0) % 18446744073709551616 + (lo + c + 0) / 18446744073709551616 * 18446744073709551616 = lo + c := by omega
    have hs1 : 0 ≤ (lo + c + 0) % 18446744073709551616 ∧ (lo + c + 0) % 18446744073709551616 ≤ 18446744073709551615 := by omega
    have hcc1 : 0 ≤ (lo + c + 0) / 18446744073709551616 ∧ (lo + c + 0) / 18446744073709551616 ≤ 1 := by omega
    generalize (lo + c + 0) % 18446744073709551616 = s1 at *
    generalize (lo + c + 0) / 18446744073709551616 = c1 at *
    refine l_move rfl rfl rfl (l_move rfl rfl rfl ?_)
    refine l_add rfl rfl rfl rfl (w_u64 (by omega)) ?_
    refine l_assign rfl rfl rfl (l_nil (e_then ?_))
    refine c_keep [0, 1, 6, 7, 8, 10, 11, 12, 31, 32, 49, 50] (.cons rfl (.cons rfl (.cons rfl (.cons rfl (.cons rfl (.cons rfl (.cons rfl (.cons rfl (.cons rfl (.cons rfl (.cons rfl (.cons rfl .nil)))))))))))) ?_
    refine c_seq (c_region (l_move rfl rfl rfl (l_move rfl rfl rfl (l_move rfl rfl rfl (l_move rfl rfl rfl ?_)))))
    refine v_getw (j := j) (l := i) rfl rfl rfl rfl Try.underlying95 tz75 Try.underlying75 rfl rfl h8_12 (by first | exact hw4.io mem0 | exact hw4.iarg hva | exact hw4.iarg hvb | exact hw4.iarg ha | exact hw4.iarg hb | assumption) (by first | omega | (simp; done) | (simp; omega)) hc8_12 (by assumption) rfl (by first | rfl | omega) (by omega) (fun hb16_4 => ?_)
    refine l_move rfl rfl rfl ?_
    refine l_extern rfl rfl Try.func80 rfl rfl rfl rfl (.cons rfl (.cons rfl (.cons rfl .nil))) (run_add64 _ _ _ hb16_4.1 hs1.1 (by omega) (by omega) _) ?_
    refine l_move rfl rfl rfl (l_extract rfl rfl rfl rfl (l_extract rfl rfl rfl rfl ?_))
    refine v_addrw (j := j) (l := i) rfl rfl Try.underlying95 tz75 rfl rfl h8_12 (by first | exact hw4.io mem0 | exact hw4.iarg hva | exact hw4.iarg hvb | exact hw4.iarg ha | exact hw4.iarg hb | assumption) (by first | omega | (simp; done) | (simp; omega)) (by first | rfl | omega) (by omega) ?_
    refine v_storeiw hw4 .head h8_12 (by first | rfl | omega | (simp; done) | (simp; omega)) rfl tz75 rfl rfl (by first | omega | (simp; done) | (simp; omega)) (fun w5 hw5 => ?_)
    try clear hw4
    refine l_assign rfl rfl rfl (l_nil (e_then ?_))
    refine c_keep [0, 1, 6, 7, 8, 11, 13, 31, 32, 49, 50] (.cons rfl (.cons rfl (.cons rfl (.cons rfl (.cons rfl (.cons rfl (.cons rfl (.cons rfl (.cons rfl (.cons rfl (.cons rfl .nil))))))))))) ?_
    refine c_region ?_
    have e3 : (o'.getD (i + j) 0 + s1 + 0) % 18446744073709551616 + (o'.getD (i + j) 0 + s1 + 0) / 18446744073709551616 * 18446744073709551616 = o'.getD (i + j) 0 + s1 := by omega
    have hs2 : 0 ≤ (o'.getD (i + j) 0 + s1 + 0) % 18446744073709551616 ∧ (o'.getD (i + j) 0 + s1 + 0) % 18446744073709551616 ≤ 18446744073709551615 := by omega
    have hcc2 : 0 ≤ (o'.getD (i + j) 0 + s1 + 0) / 18446744073709551616 ∧ (o'.getD (i + j) 0 + s1 + 0) / 18446744073709551616 ≤ 1 := by omega
    generalize (o'.getD (i + j) 0 + s1 + 0) % 18446744073709551616 = s2 at *
    generalize (o'.getD (i + j) 0 + s1 + 0) / 18446744073709551616 = c2 at *
    have hroom := high_room (W := 18446744073709551616) (x := (Ma.tr la).getD i 0) (y := (Ma.tr lb).getD j 0) (by omega) (by omega) (by omega) (c := c) (by omega) (o := o'.getD (i + j) 0) (by omega) e1 e2 e3 hs2.1
    refine l_move rfl rfl rfl (l_move rfl rfl rfl ?_)
    refine l_add rfl rfl rfl rfl (w_u64 (by omega)) ?_
    refine l_assign rfl rfl rfl (l_nil ?_)
    refine e_blk ?_
    refine e_then ?_
    refine c_keep [0, 1, 6, 7, 8, 9, 31, 32, 49, 50] (.cons rfl (.cons rfl (.cons rfl (.cons rfl (.cons rfl (.cons rfl (.cons rfl (.cons rfl (.cons rfl (.cons rfl .nil)))))))))) ?_
    refine c_region ?_
    refine l_add rfl rfl rfl rfl (w_i64 (by omega)) ?_
    refine l_move rfl rfl rfl (l_nil ?_)
    refine e_againk (i := (j, o', c)) (j + 1, o'.set (i + j) s2, hi + c1 + c2) ?_ ?_ (.cons rfl (.cons rfl (.cons rfl (.cons rfl (.cons rfl (.cons rfl (.cons rfl (.cons rfl .nil)))))))) ?_
    ·first | omega | (simp; omega)
    ·have h1 := Ma.vb_set_at 18446744073709551616 o' (i + j) s2 (by omega)
     have h2 := Ma.vb_take_succ 18446744073709551616 (Ma.tr lb) j
     have h3 := mul_place (W := 18446744073709551616) (p := 18446744073709551616 ^ (i + j)) (by omega) hval' e1 e2 e3
     refine ⟨hw5, by omega, by simpa using hol', hUo'.set (by omega) _, by omega, by omega, fun k hk => by rw [getD_set_ne _ (by omega)]; exact hz' k hk, ?_⟩
     show Ma.vb _ _ + _ = _ + _ * Ma.vb _ _
     rw [h1, h2, ← Nat.add_assoc, Int.pow_succ, h3, Int.pow_add, Int.mul_add, ← Int.add_assoc]
     congr 1
     rw [Int.mul_assoc, Int.mul_assoc, Int.mul_left_comm ((Ma.tr la).getD i 0)]
    ·exact (.cons rfl (by first | rfl | (refine congrArg (Value.int _) ?_; omega)) (.cons rfl (by first | rfl | (refine congrArg (Value.int _) ?_; omega)) .nil))
   ·skip
    refine c_exit ?_
    refine e_then_exit ?_
    refine e_then_exit ?_
    refine e_blk_exit ?_
    refine e_then ?_
    refine c_keep [0, 1, 6, 8, 9, 31, 32] (.cons rfl (.cons rfl (.cons rfl (.cons rfl (.cons rfl (.cons rfl (.cons rfl .nil))))))) ?_
    refine c_region (l_move rfl rfl rfl (l_move rfl rfl rfl ?_))
    refine v_leni rfl rfl Try.underlying95 rfl (by first | exact hw3.io mem0 | exact hw3.iarg hva | exact hw3.iarg hvb | exact hw3.iarg ha | exact hw3.iarg hb | assumption) ?_
    refine l_move rfl rfl rfl ?_
    refine v_addrw (j := (Ma.tr lb).length) (l := i) rfl rfl Try.underlying95 tz75 rfl rfl h8_12 (by first | exact hw3.io mem0 | exact hw3.iarg hva | exact hw3.iarg hvb | exact hw3.iarg ha | exact hw3.iarg hb | assumption) (by first | omega | (simp; done) | (simp; omega)) (by first | rfl | omega) (by omega) ?_
    refine v_storeiw hw3 .head h8_12 (by first | rfl | omega | (simp; done) | (simp; omega)) rfl tz75 rfl rfl (by first | omega | (simp; done) | (simp; omega)) (fun w6 hw6 => ?_)
    try clear hw3
    refine l_nil ?_
    refine e_blk ?_
    refine e_then ?_
    refine c_keep [0, 1, 6, 31, 32] (.cons rfl (.cons rfl (.cons rfl (.cons rfl (.cons rfl .nil))))) ?_
    refine c_region ?_
    refine l_add rfl rfl rfl rfl (w_i64 (by omega)) ?_
    refine l_move rfl rfl rfl (l_nil ?_)
    refine e_againk (i := (i, o)) (i + 1, o'.set (i + (Ma.tr lb).length) c) ?_ ?_ (.cons rfl (.cons rfl (.cons rfl (.cons rfl .nil)))) ?_
    ·first | omega | (simp; omega)
    ·obtain rfl : j = (Ma.tr lb).length := by omega
     have h1 := Ma.vb_set_at 18446744073709551616 o' (i + (Ma.tr lb).length) c (by omega)
     rw [hz' _ (Nat.le_refl _), Int.sub_zero] at h1
     refine ⟨hw6, by omega, by simpa using hol', hUo'.set (by omega) _, fun k hk => by rw [getD_set_ne _ (by omega)]; exact hz' k (by omega), ?_⟩
     show Ma.vb _ _ = Ma.vb _ _ * _
     rw [Ma.vb_take_succ, h1, Int.add_mul]
     rw [List.take_length] at hval'
     exact hval'
    ·exact (.cons rfl (by first | rfl | (refine congrArg (Value.int _) ?_; omega)) .nil)
  ·skip
   refine c_exit ?_
   refine e_then_exit ?_
   refine e_then_exit ?_
   refine e_blk_exit ?_
   refine e_then ?_
   refine c_keep [6] (.cons rfl .nil) ?_
   refine c_seq (c_region (l_move rfl rfl rfl ?_))
   refine l_call rfl rfl Try.func82 rfl rfl (.cons rfl .nil) (told_turn hUo (by omega) (hw2.io mem0)) ?_
   rintro _ w7 ⟨v', ls, rfl, hcn, hT⟩
   have hw7 := hT _ _ _ _ _ .head hw2
   try clear hT hw2
   refine l_extract rfl rfl rfl rfl (l_extract rfl rfl rfl rfl (l_assign rfl rfl rfl (l_assign rfl rfl rfl (l_nil (e_then ?_)))))
   refine c_keep [4, 5] (.cons rfl (.cons rfl .nil)) ?_
   refine c_ret ?_
   refine e_done2 Try.results70 rfl rfl ?_
   refine ⟨_, rfl, ?_⟩
   obtain rfl : i = (Ma.tr la).length := by omega
   rw [List.take_length, nv_tr, nv_tr] at hval
   rw [hval] at hcn ⊢
   unfold NatR
   by_cases hC : 8192 < Ma.blen (nv la * nv lb)
   ·rw [if_pos hC] at hcn ⊢
    rw [if_pos (.inr (.inr hC)), if_pos (.inr (.inr hC))]
    exact ⟨_, _, rfl, hcn, hw7.grows⟩
   ·rw [if_neg hC] at hcn ⊢
    have hn : ¬ (8192 < Ma.blen (nv la) ∨ 8192 < Ma.blen (nv lb) ∨ 8192 < Ma.blen (nv la * nv lb)) := fun h => h.elim (fun h => hgood (.inl h)) fun h => h.elim (fun h => hgood (.inr h)) hC
    rw [if_neg hn, if_neg hn]
    exact ⟨_, _, rfl, hcn, hw7.grows⟩
end Go.Proofs.Ytgfkagaacdblbaa.W
