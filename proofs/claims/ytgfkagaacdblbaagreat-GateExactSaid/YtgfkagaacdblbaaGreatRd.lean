/- walks of the reference's Cmp, Less, two, Left, Right -/
import Derived.Test.YtgfkagaacdblbaaGreatFf
set_option linter.unusedVariables false
set_option linter.unusedSimpArgs false
set_option maxRecDepth 10000
namespace Go.Proofs.YtgfkagaacdblbaaGreat.W
open Go.Vc Go.RowKit Tryz
theorem cmpR (a b : Value) (la lb : List Int) (na nb : Int) (hRa : R16 la na) (hRb : R16 lb nb) (hLa : la.length ≤ 1099511627776) (hLb : lb.length ≤ 1099511627776) (w : World) (ha : IV w a (ints .i64 la)) (hb : IV w b (ints .i64 lb)) :
  Z0f P 85 [a, b] w fun r w' => r = .int .i64 (cmpI na nb) ∧ Grow w w' [] := by
 refine Z0o func85 rfl ntmps85 rfl ?_
 have H0 := St.start w
 have hDa := hRa.d
 have hDb := hRb.d
 refine Z03 (Z00 (Zg (Z01 (Z02 ?_))))
 refine Zk [0, 1] ?_
 refine Z03 (Z03 (Z00 (Zm ?_)))
 refine Z0u rfl rfl underlying34 rfl (by first | exact H0.iarg ha | exact H0.iarg hb | assumption) ?_
 refine Zm ?_
 refine Z0u rfl rfl underlying34 rfl (by first | exact H0.iarg ha | exact H0.iarg hb | assumption) ?_
 refine Zo ?_
 refine Z01 (Z02 ?_)
 refine Zk [0, 1, 10] ?_
 (first | refine Z0c rfl ?_ ?_ | refine Z08 rfl ?_ ?_) <;> intro hc0
 ·refine Z03 (Z03 (Z00 (Zm ?_)))
  refine Z0u rfl rfl underlying34 rfl (by first | exact H0.iarg ha | exact H0.iarg hb | assumption) ?_
  refine Zm ?_
  refine Z0u rfl rfl underlying34 rfl (by first | exact H0.iarg ha | exact H0.iarg hb | assumption) ?_
  refine Zl ?_
  refine Z01 (Z02 ?_)
  refine Zk [15] ?_
  (first | refine Z0c rfl ?_ ?_ | refine Z08 rfl ?_ ?_) <;> intro hc1
  ·refine Z03 (Z00 (Zg (Z01 (Z02 ?_))))
   refine Zk [4] ?_
   refine Z0i ?_
   refine Z07 ?_
   refine Z07 ?_
   refine Z0e results85 rfl ?_
   refine ⟨_, rfl, ?_⟩
   exact ⟨by rw [Z4d (hRa.lt_of_len ZO hRb ZO)], H0.grows⟩
  refine Z0a (Z02 ?_)
  refine Zk [] ?_
  refine Z03 (Z00 (Zg (Z01 (Z02 ?_))))
  refine Z0i ?_
  refine Z07 ?_
  refine Z0e results85 rfl ?_
  refine ⟨_, rfl, ?_⟩
  exact ⟨by rw [Z4T (hRb.lt_of_len ZO hRa ZO)], H0.grows⟩
 refine Z0a (Z02 ?_)
 refine Zk [0, 1] ?_
 refine Z03 (Z03 (Z00 ?_))
 have hlen : la.length = lb.length := by omega
 refine Zm ?_
 refine Z0u rfl rfl underlying34 rfl (by first | exact H0.iarg ha | exact H0.iarg hb | assumption) ?_
 refine Z0W rfl rfl rfl rfl (Z0l ZO) ?_
 refine Zg (Z01 (Z02 ?_))
 refine Zk [0, 1, 5] ?_
 refine Z0d ?_
 refine Z0z (ι := Nat) (fun (k : Nat) => k) (fun (k : Nat) (w' : World) => St w w.heap.size Z0J ([]) w' ∧ k ≤ la.length ∧ la.drop k = lb.drop k) (fun (k : Nat) => [(5, .int .i64 ((k : Int) - 1))]) [0, 1] (la.length) ?_ (.cons rfl (.cons rfl .nil)) ?_ ?_
 ·exact ⟨H0, Nat.le_refl _, by rw [List.drop_length, hlen, List.drop_length]⟩
 ·exact (.cons rfl ZN .nil)
 rintro k w1 ⟨H1, hk, hd⟩
 show RunC P _ _ _ (_ :: _) _
 refine Z03 (Z03 (Z00 (Zm ?_)))
 refine Zh ?_
 refine Z01 (Z02 ?_)
 refine Zk [0, 1, 5, 20] ?_
 (first | refine Z0c rfl ?_ ?_ | refine Z08 rfl ?_ ?_) <;> intro hc2
 ·refine Z0a (Z02 ?_)
  refine Zk [0, 1, 5] ?_
  refine Z03 (Z0d (Z03 (Z03 ?_)))
  refine Z2F ZK ZK ?_
  have H2 := H1.drewn
  refine Zm (Zm ?_)
  refine Z0T (j := k - 1) rfl rfl rfl rfl underlying34 tz3 underlying3 rfl rfl (by first | exact H2.iarg ha | exact H2.iarg hb | assumption) ZA rfl ZO ZI (fun hb8_2 => ?_)
  refine Zm (Zm ?_)
  refine Z0T (j := k - 1) rfl rfl rfl rfl underlying34 tz3 underlying3 rfl rfl (by first | exact H2.iarg ha | exact H2.iarg hb | assumption) ZA rfl ZO ZI (fun hb8_6 => ?_)
  refine Zl ?_
  refine Z01 (Z02 ?_)
  refine Zk [0, 1, 5, 31] ?_
  (first | refine Z0c rfl ?_ ?_ | refine Z08 rfl ?_ ?_) <;> intro hc3
  ·refine Z03 (Z00 (Zg (Z01 (Z02 ?_))))
   refine Zk [4] ?_
   refine Z0i ?_
   refine Z07 ?_
   refine Z0k ?_
   refine Z07 ?_
   refine Z07 ?_
   refine Z0k ?_
   refine Z07 ?_
   refine Z0e results85 rfl ?_
   refine ⟨_, rfl, ?_⟩
   have hd' : la.drop (k - 1 + 1) = lb.drop (k - 1 + 1) := by rw [show k - 1 + 1 = k from by omega]; exact hd
   have h := Ma.vb_lt_of_top (show (0 : Int) < 65536 by omega) hDa.dg hDb.dg hlen (k := k - 1) ZO hd' ZO
   rw [hRa.val, hRb.val] at h
   exact ⟨by rw [Z4d h], H2.grows⟩
  refine Z0a (Z02 ?_)
  refine Zk [0, 1, 5] ?_
  refine Z03 ?_
  refine Z2F ZK ZK ?_
  have H3 := H2.drewn
  refine Zm (Zm ?_)
  refine Z0T (j := k - 1) rfl rfl rfl rfl underlying34 tz3 underlying3 rfl rfl (by first | exact H3.iarg ha | exact H3.iarg hb | assumption) ZA rfl ZO ZI (fun hb10_2 => ?_)
  refine Zm (Zm ?_)
  refine Z0T (j := k - 1) rfl rfl rfl rfl underlying34 tz3 underlying3 rfl rfl (by first | exact H3.iarg ha | exact H3.iarg hb | assumption) ZA rfl ZO ZI (fun hb10_6 => ?_)
  refine Zw ?_
  refine Z01 (Z02 ?_)
  refine Zk [0, 1, 5, 40] ?_
  (first | refine Z0c rfl ?_ ?_ | refine Z08 rfl ?_ ?_) <;> intro hc4
  ·refine Z03 (Z00 (Zg (Z01 (Z02 ?_))))
   refine Zk [4] ?_
   refine Z0i ?_
   refine Z0k ?_
   refine Z07 ?_
   refine Z07 ?_
   refine Z0k ?_
   refine Z07 ?_
   refine Z0e results85 rfl ?_
   refine ⟨_, rfl, ?_⟩
   have hd' : lb.drop (k - 1 + 1) = la.drop (k - 1 + 1) := by rw [show k - 1 + 1 = k from by omega]; exact hd.symm
   have h := Ma.vb_lt_of_top (show (0 : Int) < 65536 by omega) hDb.dg hDa.dg hlen.symm (k := k - 1) ZO hd' ZO
   rw [hRa.val, hRb.val] at h
   exact ⟨by rw [Z4T h], H3.grows⟩
  refine Z0a ?_
  refine Z0F ?_
  refine Z02 ?_
  refine Zk [0, 1, 5] ?_
  refine Z00 (Zm ?_)
  refine Z0W rfl rfl rfl rfl (Z0l ZO) ?_
  refine Zg (Z01 ?_)
  refine Z0p (i := (k)) (k - 1) ?_ ?_ (.cons rfl (.cons rfl .nil)) ?_
  ·first | omega | (simp; omega)
  ·have e1 := Z31 (l := la) (k := k - 1) ZO
   have e2 := Z31 (l := lb) (k := k - 1) ZO
   refine ⟨H3, ZO, ?_⟩
   rw [e1, e2, show k - 1 + 1 = k from by omega, hd, show la.getD (k - 1) 0 = lb.getD (k - 1) 0 from by omega]
  exact (.cons rfl ZN .nil)
 refine Z0H ?_
 refine Z06 ?_
 refine Z06 ?_
 refine Z0h ?_
 refine Z02 ?_
 refine Zk [] ?_
 refine Z03 (Z00 (Zg (Z01 (Z02 ?_))))
 refine Z0i ?_
 refine Z0e results85 rfl ?_
 refine ⟨_, rfl, ?_⟩
 have hk0 : k = 0 := by omega
 subst hk0
 simp only [List.drop_zero] at hd
 exact ⟨by rw [cmpI_eq (hRa.val.symm.trans ((congrArg _ hd).trans hRb.val))], H1.grows⟩
theorem lessR (a b : Value) (la lb : List Int) (na nb : Int) (hRa : R16 la na) (hRb : R16 lb nb) (hLa : la.length ≤ 1099511627776) (hLb : lb.length ≤ 1099511627776) (hge : nb ≤ na) (w : World) (ha : IV w a (ints .i64 la)) (hb : IV w b (ints .i64 lb)) :
  Z0f P 86 [a, b] w fun r w' => ∃ v ls, r = v ∧ R16 ls (na - nb) ∧ Grow w w' [As.ri 3 .i64 v ls] := by
 refine Z0o func86 rfl ntmps86 rfl ?_
 have H0 := St.start w
 have hDa := hRa.d
 have hDb := hRb.d
 have hll : lb.length ≤ la.length := by
  rcases Nat.lt_or_ge la.length lb.length with h | h
  ·have := hRa.lt_of_len (show (1 : Int) < 65536 by omega) hRb h
   omega
  exact h
 refine Z03 (Z00 (Zg (Z01 (Z02 ?_))))
 refine Zk [0, 1] ?_
 refine Z03 (Z00 (Zg (Z01 (Z02 (Z03 (Z00 (Zg (Z01 (Z02 (Z03 (Z03 ?_)))))))))))
 refine Z00 (Zg (Z01 (Z02 (Z0d ?_))))
 refine Z0z (ι := Nat × List Int × Int × Value) (fun (z0 : Nat × List Int × Int × Value) => match z0 with | ⟨k, o, c, vo⟩ => la.length - k) (fun (z0 : Nat × List Int × Int × Value) (w' : World) => match z0 with | ⟨k, o, c, vo⟩ => St w w.heap.size Z0J ([As.ri 3 .i64 vo o]) w' ∧ k ≤ la.length ∧ o.length = k ∧ D16 o ∧ 0 ≤ c ∧ c ≤ 1 ∧ rv o = rv (la.take k) - rv (lb.take k) + 65536 ^ k * c) (fun (z0 : Nat × List Int × Int × Value) => match z0 with | ⟨k, o, c, vo⟩ => [(5, vo), (6, .int .i64 c), (7, .int .i64 (k : Int))]) [0, 1] (0, [], 0, .slice none 0 0) ?_ (.cons rfl (.cons rfl .nil)) ?_ ?_
 ·exact ⟨H0.nil 3, ZO, rfl, D16.nil, ZO, ZO, by simp [Ma.vb]⟩
 ·exact (.cons rfl ZN (.cons rfl ZN (.cons rfl ZN .nil)))
 rintro ⟨k, o, c, vo⟩ w1 ⟨H1, hk, hol, hDo, hc1, hc2, hval⟩
 show RunC P _ _ _ (_ :: _) _
 refine Z03 (Z03 (Z00 (Zm (Zm ?_))))
 refine Z0u rfl rfl underlying34 rfl (by first | exact H1.io mem0 | exact H1.iarg ha | exact H1.iarg hb | assumption) ?_
 refine Zl ?_
 refine Z01 (Z02 ?_)
 refine Zk [0, 1, 5, 6, 7, 12] ?_
 (first | refine Z0c rfl ?_ ?_ | refine Z08 rfl ?_ ?_) <;> intro hc0
 ·refine Z0a (Z02 ?_)
  refine Zk [0, 1, 5, 6, 7] ?_
  refine Z03 (Z0d (Z03 (Z00 ?_)))
  have hga := Z1N hDa k
  have hgb := Z1N hDb k
  refine Zm (Zm ?_)
  refine Z0T rfl rfl rfl rfl underlying34 tz3 underlying3 rfl rfl (by first | exact H1.io mem0 | exact H1.iarg ha | exact H1.iarg hb | assumption) ZA rfl rfl ZI (fun hb6_2 => ?_)
  refine Zm ?_
  refine Z0W rfl rfl rfl rfl (Z0l ZO) ?_
  refine Zg (Z01 (Z02 ?_))
  refine Zk [0, 1, 5, 7, 8] ?_
  refine Z1q (ι := Int) (fun (d1 : Int) (w' : World) => St w w.heap.size Z0J ([As.ri 3 .i64 vo o]) w' ∧ d1 = la.getD k 0 - c - lb.getD k 0) (fun (d1 : Int) => [(8, .int .i64 d1)]) [0, 1, 5, 7] (.cons rfl (.cons rfl (.cons rfl (.cons rfl .nil)))) ?_ ?_
  ·refine Z03 (Z00 ?_)
   have hga := Z1N hDa k
   have hgb := Z1N hDb k
   refine Zm (Zm ?_)
   refine Z0u rfl rfl underlying34 rfl (by first | exact H1.io mem0 | exact H1.iarg ha | exact H1.iarg hb | assumption) ?_
   refine Zl ?_
   refine Z01 (Z02 ?_)
   refine Zk [0, 1, 5, 7, 8, 24] ?_
   (first | refine Z0c rfl ?_ ?_ | refine Z08 rfl ?_ ?_) <;> intro hc1
   ·refine Z00 (Zm (Zm (Zm ?_)))
    refine Z0T rfl rfl rfl rfl underlying34 tz3 underlying3 rfl rfl (by first | exact H1.io mem0 | exact H1.iarg ha | exact H1.iarg hb | assumption) ZA rfl rfl ZI (fun hb8_3 => ?_)
    refine Z0W rfl rfl rfl rfl (Z0l ZO) ?_
    refine Zg (Z01 ?_)
    refine Z0w (la.getD k 0 - c - lb.getD k 0) ?_ (.cons rfl (.cons rfl (.cons rfl (.cons rfl .nil)))) ?_
    ·exact ⟨H1, rfl⟩
    exact (.cons rfl ZN .nil)
   refine Z0a ?_
   refine Z0w (la.getD k 0 - c) ?_ (.cons rfl (.cons rfl (.cons rfl (.cons rfl .nil)))) ?_
   ·exact ⟨H1, by rw [Z3W (l := lb) ZO]; omega⟩
   exact (.cons rfl ZN .nil)
  rintro d1 w2 ⟨H2, hd1⟩
  show RunC P _ _ _ (_ :: _) _
  refine Z03 (Z00 (Zg (Z01 (Z02 ?_))))
  refine Z1q (ι := Int × Int) (fun (z0 : Int × Int) (w' : World) => match z0 with | ⟨d2, c2⟩ => St w w.heap.size Z0J ([As.ri 3 .i64 vo o]) w' ∧ 0 ≤ d2 ∧ d2 ≤ 65535 ∧ 0 ≤ c2 ∧ c2 ≤ 1 ∧ d2 - 65536 * c2 = d1) (fun (z0 : Int × Int) => match z0 with | ⟨d2, c2⟩ => [(6, .int .i64 c2), (8, .int .i64 d2)]) [0, 1, 5, 7] (.cons rfl (.cons rfl (.cons rfl (.cons rfl .nil)))) ?_ ?_
  ·refine Z03 (Z00 ?_)
   have hga := Z1N hDa k
   have hgb := Z1N hDb k
   refine Zm ?_
   refine Zl ?_
   refine Z01 (Z02 ?_)
   refine Zk [0, 1, 5, 6, 7, 8, 32] ?_
   (first | refine Z0c rfl ?_ ?_ | refine Z08 rfl ?_ ?_) <;> intro hc2
   ·refine Z03 (Z00 (Zm ?_))
    refine Z0y rfl rfl rfl rfl (Z0l ZO) ?_
    refine Zg (Z01 (Z02 ?_))
    refine Zk [0, 1, 5, 7, 8] ?_
    refine Z00 (Zg (Z01 ?_))
    refine Z0w (d1 + 65536, 1) ?_ (.cons rfl (.cons rfl (.cons rfl (.cons rfl .nil)))) ?_
    ·exact ⟨H2, ZO, ZO, ZO, ZO, ZO⟩
    exact (.cons rfl ZN (.cons rfl ZN .nil))
   refine Z0a ?_
   refine Z0w (d1, 0) ?_ (.cons rfl (.cons rfl (.cons rfl (.cons rfl .nil)))) ?_
   ·exact ⟨H2, ZO, ZO, ZO, ZO, ZO⟩
   exact (.cons rfl ZN (.cons rfl ZN .nil))
  rintro ⟨d2, c2⟩ w3 ⟨H3, hd20, hd21, hc20, hc21, hd2⟩
  show RunC P _ _ _ (_ :: _) _
  refine Z00 (Zm (Zm ?_))
  refine Z2g H3 rfl rfl underlying34 ti3 rfl (.cons rfl ZR .nil) rfl rfl rfl (fun b13_2 w4 H4 => ?_)
  refine Z46 H4 rfl rfl underlying34 ti3 rfl rfl rfl rfl (by first | (simp [Value.oneCell']; done) | (intro u hu; rw [List.mem_singleton.1 hu]; assumption)) (by first | (simp; done) | (simp; omega)) (by first | (simp; done) | (simp; omega)) (fun v13_3 w5 H5 => ?_)
  refine Zg (Z01 ?_)
  refine Z0F ?_
  refine Z02 ?_
  refine Zk [0, 1, 5, 6, 7] ?_
  refine Z00 (Zm ?_)
  refine Z0y rfl rfl rfl rfl (Z0l ZO) ?_
  refine Zg (Z01 ?_)
  refine Z0p (i := (k, o, c, vo)) (k + 1, o ++ [d2], c2, v13_3) ?_ ?_ (.cons rfl (.cons rfl .nil)) ?_
  ·first | omega | (simp; omega)
  ·refine ⟨H5.cast (by rw [Z3s]), ZO, by simp; omega, hDo.snoc ZO, ZO, ZO, ?_⟩
   rw [rv_snoc, hol, Int.pow_succ, hval]
   have h2 := Ma.vb_take_succ 65536 la k
   have h3 := Ma.vb_take_succ 65536 lb k
   show _ = Ma.vb _ _ - Ma.vb _ _ + _
   rw [h2, h3]
   have e : 65536 ^ k * c + 65536 ^ k * d2 = 65536 ^ k * la.getD k 0 - 65536 ^ k * lb.getD k 0 + 65536 ^ k * 65536 * c2 := by
    rw [← Int.mul_add, Int.mul_assoc, ← Int.mul_sub, ← Int.mul_add]
    congr 1
    omega
   show rv (la.take k) - rv (lb.take k) + 65536 ^ k * c + 65536 ^ k * d2 = rv (la.take k) + 65536 ^ k * la.getD k 0 - (rv (lb.take k) + 65536 ^ k * lb.getD k 0) + _
   omega
  exact (.cons rfl ZN (.cons rfl ZN (.cons rfl ZN .nil)))
 refine Z0H ?_
 refine Z06 ?_
 refine Z06 ?_
 refine Z0h ?_
 refine Z02 ?_
 refine Zk [5] ?_
 refine Z03 (Z00 (Zm ?_))
 refine Zc func87 (Z32 hDo ZO (H1.io mem0)) ?_
 rintro _ w6 ⟨v', rfl, hT, _⟩
 have H6 := hT _ _ _ _ _ .head H1
 refine Zg (Z01 (Z02 ?_))
 refine Zk [4] ?_
 refine Z0i ?_
 refine Z0e results86 rfl ?_
 refine ⟨_, rfl, ?_⟩
 obtain rfl : k = la.length := by omega
 rw [List.take_length, List.take_of_length_le hll, show rv la = na from hRa.val, show rv lb = nb from hRb.val] at hval
 have hlt : rv o < 65536 ^ o.length := Ma.vb_lt (show (0 : Int) < 65536 by omega) hDo.dg
 rw [hol] at hlt
 have hc0 : c = 0 := by
  have h01 : c = 0 ∨ c = 1 := by omega
  rcases h01 with h | h
  ·exact h
  rw [h] at hval
  omega
 rw [hc0] at hval
 exact ⟨_, _, rfl, Ma.Cn.of_tr hDo.dg (by show rv o = _; omega), H6.grows⟩
theorem twoR (n : Nat) (hn : n ≤ 15) (w : World) :
  Z0f P 83 [.int .i64 (n : Int)] w fun r w' => r = .int .i64 (2 ^ n) ∧ w = w' := by
 refine Z0o func83 rfl ntmps83 rfl ?_
 refine Z03 (Z00 (Zg (Z01 (Z02 ?_))))
 refine Zk [0] ?_
 refine Z03 (Z00 (Zg (Z01 (Z02 (Z03 (Z03 (Z00 (Zg (Z01 (Z02 (Z0d ?_)))))))))))
 refine Z0z (ι := Nat × Int) (fun (z0 : Nat × Int) => match z0 with | ⟨k, x⟩ => n - k) (fun (z0 : Nat × Int) (w' : World) => match z0 with | ⟨k, x⟩ => w = w' ∧ k ≤ n ∧ x = 2 ^ k ∧ 0 ≤ x ∧ x ≤ 32768) (fun (z0 : Nat × Int) => match z0 with | ⟨k, x⟩ => [(3, .int .i64 x), (4, .int .i64 (k : Int))]) [0] (0, 1) ?_ (.cons rfl .nil) ?_ ?_
 ·exact ⟨rfl, ZO, rfl, ZO, ZO⟩
 ·exact (.cons rfl ZN (.cons rfl ZN .nil))
 rintro ⟨k, x⟩ _ ⟨rfl, hk, hx, hx0, hx1⟩
 show RunC P _ _ _ (_ :: _) _
 have hpw := Ma.pow_mono (show (1 : Int) ≤ 2 by omega) (show k + 1 ≤ 16 by omega)
 have hps := Int.pow_succ 2 k
 refine Z03 (Z03 (Z00 (Zm (Zm ?_))))
 refine Zl ?_
 refine Z01 (Z02 ?_)
 refine Zk [0, 3, 4, 7] ?_
 (first | refine Z0c rfl ?_ ?_ | refine Z08 rfl ?_ ?_) <;> intro hc0
 ·refine Z0a (Z02 ?_)
  refine Zk [0, 3, 4] ?_
  refine Z03 (Z0d (Z00 (Zm ?_)))
  refine Z20 rfl rfl rfl rfl (Z0l ZO) ?_
  refine Zg (Z01 ?_)
  refine Z0F ?_
  refine Z02 ?_
  refine Zk [0, 3, 4] ?_
  refine Z00 (Zm ?_)
  refine Z0y rfl rfl rfl rfl (Z0l ZO) ?_
  refine Zg (Z01 ?_)
  refine Z0p (i := (k, x)) (k + 1, 2 * x) ?_ ?_ (.cons rfl .nil) ?_
  ·first | omega | (simp; omega)
  ·have hpm := Ma.pow_mono (show (1 : Int) ≤ 2 by omega) (show k + 1 ≤ 15 by omega)
   have e15 : (2 : Int) ^ 15 = 32768 := (by decide)
   refine ⟨rfl, ZO, ZO, ZO, ZO⟩
  exact (.cons rfl ZN (.cons rfl ZN .nil))
 refine Z0H ?_
 refine Z06 ?_
 refine Z06 ?_
 refine Z0h ?_
 refine Z02 ?_
 refine Zk [3] ?_
 refine Z03 (Z00 (Zm (Zg (Z01 (Z02 ?_)))))
 refine Zk [2] ?_
 refine Z0i ?_
 refine Z0e results83 rfl ?_
 refine ⟨_, rfl, ?_⟩
 obtain rfl : k = n := by omega
 exact ⟨by rw [hx], rfl⟩
theorem rv_zeros (q : Nat) (l : List Int) : rv (List.replicate q 0 ++ l) = 65536 ^ q * rv l := by
 show Ma.vb _ _ = _
 rw [Ma.vb_append, Ma.vb_zeros, List.length_replicate, Int.zero_add]
theorem p16 (q : Nat) : (65536 : Int) ^ q = 2 ^ (16 * q) := by rw [Int.pow_mul]; rfl
theorem R16.drop {l : List Int} {n : Int} (h : R16 l n) (q : Nat) (hq : q ≤ l.length) : R16 (l.drop q) (n / 65536 ^ q) := by
 have e := Ma.vb_append 65536 (l.take q) (l.drop q)
 rw [List.take_append_drop, List.length_take, Nat.min_eq_left hq, h.val] at e
 have h1 := Ma.vb_lt (show (0 : Int) < 65536 by omega) (h.dg.take q)
 have h2 := Ma.vb_nonneg (show (0 : Int) < 65536 by omega) (h.dg.take q)
 rw [List.length_take, Nat.min_eq_left hq] at h1
 have hv : n / 65536 ^ q = Ma.vb 65536 (l.drop q) := by rw [e, Int.add_mul_ediv_left _ _ ZO, Int.ediv_eq_zero_of_lt h2 h1, Int.zero_add]
 refine ⟨h.dg.drop q, ?_, hv.symm⟩
 have ht : ∀ (q : Nat) (l : List Int), Ma.Tr l → Ma.Tr (l.drop q) := by
  intro q
  induction q with
  | zero => intro l h; simpa using h
  | succ q ih =>
   intro l h
   cases l with
   | nil => simpa using h
   | cons x l => simpa using ih l h.2
 exact ht q l h.tr
theorem rv_low {l : List Int} {n : Int} (h : R16 l n) (q : Nat) (hq : q ≤ l.length) : rv (l.take q) = n % 65536 ^ q := by
 have e := Ma.vb_append 65536 (l.take q) (l.drop q)
 rw [List.take_append_drop, List.length_take, Nat.min_eq_left hq, h.val] at e
 have h1 := Ma.vb_lt (show (0 : Int) < 65536 by omega) (h.dg.take q)
 have h2 := Ma.vb_nonneg (show (0 : Int) < 65536 by omega) (h.dg.take q)
 rw [List.length_take, Nat.min_eq_left hq] at h1
 rw [e, Int.add_mul_emod_self_left, Int.emod_eq_of_lt h2 h1]
theorem mod_split {n : Int} (hn : 0 ≤ n) (a b : Int) (ha : 0 < a) (hb : 0 < b) : ¬ n % (a * b) = 0 ↔ ¬ n % a = 0 ∨ ¬ n / a % b = 0 := by
 have e1 := Int.emod_add_mul_ediv n a
 have e2 := Int.emod_add_mul_ediv (n / a) b
 have h1 := Int.emod_nonneg n (show a ≠ 0 by omega)
 have h2 := Int.emod_lt_of_pos n ha
 have h3 := Int.emod_nonneg (n / a) (show b ≠ 0 by omega)
 have h4 := Int.emod_lt_of_pos (n / a) hb
 have e3 : n = (n % a + a * (n / a % b)) + a * b * (n / a / b) := by
  rw [Int.mul_assoc, Int.add_assoc, ← Int.mul_add, e2, e1]
 have h5 : 0 ≤ a * (n / a % b) := Int.mul_nonneg ZO h3
 have h6 : a * (n / a % b + 1) ≤ a * b := Int.mul_le_mul_of_nonneg_left ZO ZO
 rw [Int.mul_add, Int.mul_one] at h6
 have e4 : n % (a * b) = n % a + a * (n / a % b) := by
  have := congrArg (· % (a * b)) e3
  simp only [Int.add_mul_emod_self_left] at this
  rw [this, Int.emod_eq_of_lt ZO ZO]
 rw [e4]
 constructor
 ·intro h
  rcases Int.lt_or_eq_of_le h1 with h7 | h7
  ·exact .inl ZO
  refine .inr fun h8 => h ?_
  rw [← h7, h8, Int.mul_zero, Int.add_zero]
 rintro (h | h) h7
 ·omega
 have : 0 < a * (n / a % b) := Int.mul_pos ha ZO
 omega
theorem leftR (v : Value) (l : List Int) (n : Int) (hR : R16 l n) (hL : l.length ≤ 1048576) (N : Nat) (hN : N ≤ 1048576) (w : World) (hv : IV w v (ints .i64 l)) :
  Z0f P 72 [v, .int .i64 (N : Int)] w fun r w' => ∃ v ls, r = v ∧ R16 ls (n * 2 ^ N) ∧ Grow w w' [As.ri 3 .i64 v ls] := by
 refine Z0o func72 rfl ntmps72 rfl ?_
 have H0 := St.start w
 refine Z03 (Z00 (Zg (Z01 (Z02 ?_))))
 refine Zk [0, 1] ?_
 refine Z03 (Z03 (Z00 (Zm ?_)))
 refine Z0u rfl rfl underlying34 rfl (by first | exact H0.iarg hv | assumption) ?_
 refine Ze ?_
 refine Z01 (Z02 ?_)
 refine Zk [0, 1, 8] ?_
 (first | refine Z0c rfl ?_ ?_ | refine Z08 rfl ?_ ?_) <;> intro hc0
 ·refine Z03 (Z00 (Zg (Z01 (Z02 ?_))))
  refine Zk [4] ?_
  refine Z0i ?_
  refine Z07 ?_
  refine Z0e results72 rfl ?_
  refine ⟨_, rfl, ?_⟩
  obtain rfl : l = [] := List.eq_nil_of_length_eq_zero ZO
  have hn : n = 0 := hR.val.symm
  subst hn
  exact ⟨_, [], rfl, by rw [Int.zero_mul]; exact Ma.Cn.nil, (H0.nil 3).grows⟩
 refine Z0a (Z02 ?_)
 refine Zk [0, 1] ?_
 refine Z03 (Z00 (Zm ?_))
 refine Z2D rfl rfl rfl rfl ZO (Z35 ZO) ?_
 refine Z1A (m := N / 16) (c := N / 16) H0 rfl rfl underlying34 ti3 rfl rfl rfl ZO ZO ZO ZO ZO (fun v3_2 w1 H1 => ?_)
 refine Zg (Z01 (Z02 ?_))
 refine Zk [0, 1, 5] ?_
 refine Z03 (Z00 (Zm (Zm (Zm ?_))))
 refine Z2e rfl rfl rfl rfl ZO (Z2E ZO) ?_
 have hpw := Ma.pow_pos (show (0 : Int) < 2 by omega) (N % 16)
 have hpm := Ma.pow_mono (show (1 : Int) ≤ 2 by omega) (show N % 16 ≤ 15 by omega)
 have e15 : (2 : Int) ^ 15 = 32768 := (by decide)
 have hRt : R16 [2 ^ (N % 16)] (2 ^ (N % 16)) := ⟨fun x hx => by rw [List.mem_singleton.1 hx]; omega, ⟨fun _ => by omega, trivial⟩, by simp [Ma.vb]⟩
 refine Z0j (s := 15) (v' := .int .i64 ((N % 16 : Nat) : Int)) rfl (by refine congrArg (Value.int _) ?_; omega) ?_
 refine Zp func83 (twoR (N % 16) ZO _) ?_
 refine Z2g H1 rfl rfl underlying34 ti3 rfl (.cons rfl ZR .nil) rfl rfl rfl (fun b4_5 w2 H2 => ?_)
 refine Z0I rfl rfl func81 rfl rfl (.cons rfl (.cons rfl .nil)) (prodR _ _ _ _ _ _ hR hRt ZO (by simp) w2 (H2.iarg hv) (H2.ibl mem0)) ?_
 rintro vp w3 ⟨_, lp, rfl, hRp, hG⟩
 have H3 := hG _ _ _ _ H2
 simp only [Zca, Zna] at H3
 have H4 := St.front2 H3
 have hlp : lp.length ≤ l.length + 1 := by
  have h1 := Ma.vb_lt (show (0 : Int) < 65536 by omega) hR.dg
  rw [hR.val] at h1
  rcases Nat.lt_or_ge (l.length + 1) lp.length with h | h
  ·have h2 := Ma.Tr.pos (show (0 : Int) < 65536 by omega) hRp.dg hRp.tr (by intro e; subst e; simp at h)
   rw [hRp.val] at h2
   have h3 := Ma.pow_mono (show (1 : Int) ≤ 65536 by omega) (show l.length + 1 ≤ lp.length - 1 by omega)
   rw [Int.pow_succ] at h3
   have h4 : n * 2 ^ (N % 16) ≤ n * 65536 := Int.mul_le_mul_of_nonneg_left ZO (hR.nonneg ZO)
   omega
  exact h
 refine Z45 H4 rfl rfl underlying34 ti3 rfl rfl rfl (by first | exact H4.io mem0 | exact H4.io mem1 | exact H4.ibl mem2 | exact H4.iarg hv | assumption) (by first | exact Z4K _ _ | exact bys_one _ | simp [Value.oneCell']) (by first | (simp; done) | (simp; omega)) (by first | (simp; done) | (simp; omega)) (fun v4_7 w5 H5 => ?_)
 refine Zg (Z01 (Z02 ?_))
 refine Zk [4] ?_
 refine Z0i ?_
 refine Z0e results72 rfl ?_
 refine ⟨_, rfl, ?_⟩
 have H7 := St.del (.tail .head) (St.del (.tail (.tail .head)) H5)
 have hn0 : 0 < n := by
  rcases Int.lt_or_eq_of_le (hR.nonneg ZO) with h | h
  ·exact h
  have := (hR.nil_iff ZO).2 h.symm
  subst this
  simp at hc0
 have hlp0 : lp ≠ [] := fun h => by
  have := (hRp.nil_iff ZO).1 h
  have := Int.mul_pos hn0 hpw
  omega
 have hdz : Ma.Dg 65536 (List.replicate (N / 16) 0 ++ lp) := (Ma.Dg.replicate ZO _).append hRp.dg
 refine ⟨_, List.replicate (N / 16) 0 ++ lp, rfl, ⟨hdz, Ma.Tr.of_ge (show (1 : Int) < 65536 by omega) hdz fun _ => ?_, ?_⟩, ?_⟩
 ·have h1 := Ma.Tr.pos (show (0 : Int) < 65536 by omega) hRp.dg hRp.tr hlp0
  have h2 : 0 < lp.length := List.length_pos_iff.2 hlp0
  show _ ≤ rv _
  rw [rv_zeros, List.length_append, List.length_replicate, show N / 16 + lp.length - 1 = N / 16 + (lp.length - 1) from by omega, Int.pow_add]
  exact Int.mul_le_mul_of_nonneg_left h1 (Int.le_of_lt (Ma.pow_pos ZO _))
 ·show rv _ = _
  rw [rv_zeros, show rv lp = n * 2 ^ (N % 16) from hRp.val, p16, Int.mul_left_comm, ← Int.pow_add, show 16 * (N / 16) + N % 16 = N from Nat.div_add_mod N 16]
 exact (H7.cast (show _ = [As.ro 3 _ (ints .i64 (List.replicate (N / 16) 0 ++ lp))] from by simp [ints])).grows
theorem lost_succ {l : List Int} (hD : D16 l) (k : Nat) : (¬ rv (l.take k) = 0 ∨ ¬ l.getD k 0 = 0) ↔ ¬ rv (l.take (k + 1)) = 0 := by
 have h1 := Ma.vb_take_succ 65536 l k
 have h2 := Ma.vb_nonneg (show (0 : Int) < 65536 by omega) (hD.dg.take k)
 have h3 := Z1N hD k
 have hp := Ma.pow_pos (show (0 : Int) < 65536 by omega) k
 have h4 : 0 ≤ 65536 ^ k * l.getD k 0 := Int.mul_nonneg ZO h3.1
 show _ ↔ ¬ Ma.vb _ _ = 0
 rw [h1]
 constructor
 ·rintro (h | h) h5
  ·exact h (by show Ma.vb _ _ = 0; omega)
  have := Int.mul_pos hp (show 0 < l.getD k 0 by omega)
  omega
 intro h
 rcases Int.lt_or_eq_of_le h3.1 with h5 | h5
 ·exact .inr ZO
 refine .inl fun h6 => h ?_
 rw [← h5, Int.mul_zero, Int.add_zero]
 exact h6
theorem rightR (v : Value) (l : List Int) (n : Int) (hR : R16 l n) (hL : l.length ≤ 1048576) (N : Nat) (hN : N ≤ 9223372036854775807) (w : World) (hv : IV w v (ints .i64 l)) :
  Z0f P 73 [v, .int .i64 (N : Int)] w fun r w' => ∃ v ls, r = .tuple #[v, .bool (decide (¬ n % 2 ^ N = 0))] ∧ R16 ls (n / 2 ^ N) ∧ Grow w w' [As.ri 3 .i64 v ls] := by
 refine Z0o func73 rfl ntmps73 rfl ?_
 have H0 := St.start w
 obtain ⟨A, c, rfl, hc, hs⟩ := hv
 have hv : IV w (.slice A (ints .i64 l).length c) (ints .i64 l) := ⟨A, c, rfl, hc, hs⟩
 have hD := hR.d
 have hn0 : 0 ≤ n := hR.nonneg ZO
 have hbl := hR.blen
 refine Z03 (Z00 (Zg (Zg (Z01 (Z02 ?_)))))
 refine Zk [0, 1] ?_
 refine Z03 (Z03 (Z00 (Zm (Zm ?_))))
 refine Z13 rfl rfl func70 rfl rfl (.cons rfl .nil) (bitsR _ l n hR ZO w (H0.iarg hv)) ?_
 refine Zh ?_
 refine Z01 (Z02 ?_)
 refine Zk [0, 1, 13] ?_
 (first | refine Z0c rfl ?_ ?_ | refine Z08 rfl ?_ ?_) <;> intro hc0
 ·refine Z03 (Z00 (Zm ?_))
  refine Z0u rfl rfl underlying34 rfl (by first | exact H0.iarg hv | assumption) ?_
  refine Zw ?_
  refine Zg (Zg (Z01 (Z02 ?_)))
  refine Zk [4, 5] ?_
  refine Z0i ?_
  refine Z07 ?_
  refine Z0P results73 rfl rfl ?_
  refine ⟨_, rfl, ?_⟩
  have hlt := (Ma.blen_le_iff hn0 N).1 hc0
  have hz : n = 0 ↔ l.length = 0 := ⟨fun h => by rw [(hR.nil_iff ZO).2 h]; rfl, fun h => (hR.nil_iff ZO).1 (List.eq_nil_of_length_eq_zero h)⟩
  refine ⟨.slice none 0 0, [], ?_, by rw [Int.ediv_eq_zero_of_lt hn0 hlt]; exact Ma.Cn.nil, (H0.nil 3).grows⟩
  rw [Int.emod_eq_of_lt hn0 hlt, show decide (0 < (l.length : Int)) = decide (¬ n = 0) from decide_eq_decide.2 ZO]
 refine Z0a (Z02 ?_)
 refine Zk [0, 1] ?_
 refine Z03 (Z00 ?_)
 have hq : N / 16 ≤ l.length := by
  have : (N : Int) < Ma.blen n := by omega
  omega
 have hqn : (N : Int) < 16777216 := by omega
 refine Zg (Z01 (Z02 (Z03 (Z03 (Z00 (Zg (Z01 (Z02 (Z0d ?_)))))))))
 refine Z0z (ι := Nat) (fun (k : Nat) => N / 16 - k) (fun (k : Nat) (w' : World) => St w w.heap.size Z0J ([]) w' ∧ k ≤ N / 16) (fun (k : Nat) => [(6, .bool (decide (¬ rv (l.take k) = 0))), (7, .int .i64 (k : Int))]) [0, 1] (0) ?_ (.cons rfl (.cons rfl .nil)) ?_ ?_
 ·exact ⟨H0, ZO⟩
 ·exact (.cons rfl (by exact congrArg Value.bool (by simp [Ma.vb])) (.cons rfl ZN .nil))
 rintro k w1 ⟨H1, hk⟩
 show RunC P _ _ _ (_ :: _) _
 refine Z03 (Z03 (Z00 (Zm (Zm ?_))))
 refine Z2D rfl rfl rfl rfl ZO (Z35 ZO) ?_
 refine Zl ?_
 refine Z01 (Z02 ?_)
 refine Zk [0, 1, 6, 7, 20] ?_
 (first | refine Z0c rfl ?_ ?_ | refine Z08 rfl ?_ ?_) <;> intro hc1
 ·refine Z0a (Z02 ?_)
  refine Zk [0, 1, 6, 7] ?_
  refine Z03 (Z0d (Z00 (Zm (Zm ?_))))
  apply l_or 5 [0, 1, 6, 7] rfl rfl (.cons rfl (.cons rfl (.cons rfl (.cons rfl (.cons rfl .nil))))) rfl rfl (fun _ => rfl) rfl rfl rfl
  ·intro hg7_2
   refine Zm (Zm ?_)
   refine Z0T rfl rfl rfl rfl underlying34 tz3 underlying3 rfl rfl (by first | exact H1.iarg hv | assumption) ZA rfl rfl ZI (fun hb7_4 => ?_)
   refine Zo ?_
   refine Z01 ?_
   exact Z0O rfl (.cons rfl (ZF hg7_2) (.cons rfl rfl (.cons rfl rfl (.cons rfl rfl (.cons rfl rfl .nil)))))
  refine Zg (Z01 ?_)
  refine Z0F ?_
  refine Z02 ?_
  refine Zk [0, 1, 6, 7] ?_
  refine Z00 (Zm ?_)
  refine Z0y rfl rfl rfl rfl (Z0l ZO) ?_
  refine Zg (Z01 ?_)
  refine Z0p (i := (k)) (k + 1) ?_ ?_ (.cons rfl (.cons rfl .nil)) ?_
  ·first | omega | (simp; omega)
  ·exact ⟨H1, ZO⟩
  exact (.cons rfl (by exact congrArg Value.bool (decide_eq_decide.2 (lost_succ hD k))) (.cons rfl ZN .nil))
 refine Z0H ?_
 refine Z06 ?_
 refine Z06 ?_
 refine Z0h ?_
 refine Z02 ?_
 refine Zk [0, 1, 6] ?_
 refine Z03 ?_
 have H2 := H1.drewn
 have h8 : IV w (.slice (cutA A (N / 16) c 1) (l.length - N / 16) (c - N / 16)) (ints .i64 (l.drop (N / 16))) := by
  have := IV.cut (c := c) (l := N / 16) (k := l.length) (m := c) hs hq (by simp) (by simpa using hc)
  rw [List.take_of_length_le (by simp), ← List.map_drop] at this
  exact this
 have hpw := Ma.pow_pos (show (0 : Int) < 2 by omega) (N % 16)
 have hpm := Ma.pow_mono (show (1 : Int) ≤ 2 by omega) (show N % 16 ≤ 15 by omega)
 have e15 : (2 : Int) ^ 15 = 32768 := (by decide)
 refine Z1a (n := 13) [Zz,Zz,Zz,Zz,Zz,Zz,Zz,Zz,Zz,Zz,Zz,Zz,Zz] (fun wS => True) ZK rfl rfl ?_
 apply Zu (L' := [Zy,Zz,Zz,Zz,Zz,Zz,Zz,Zz,Zz,Zz,Zz,Zz,Zz]) 0 (trivial)
 ·intro wS sS
  refine Zm (Z01 ?_)
  exact Z04 rfl
 apply Zu (L' := [Zy,Zy,Zz,Zz,Zz,Zz,Zz,Zz,Zz,Zz,Zz,Zz,Zz]) 1 (trivial)
 ·intro wS sS
  refine Zm (Z01 ?_)
  exact Z04 rfl
 apply Zu (L' := [Zy,Zy,Zy,Zz,Zz,Zz,Zz,Zz,Zz,Zz,Zz,Zz,Zz]) 2 (trivial)
 ·intro wS sS
  refine Z2D rfl rfl rfl rfl ZO (Z35 ZO) ?_
  refine Z01 ?_
  exact Z04 rfl
 apply Zu (L' := [Zy,Zy,Zy,Zy,Zz,Zz,Zz,Zz,Zz,Zz,Zz,Zz,Zz]) 3 (trivial)
 ·intro wS sS
  refine Z2d (size := 1) (l := N / 16) (h := l.length) (mm := c) rfl rfl underlying34 tz3 rfl rfl rfl rfl (show (N : Int) / 16 = ((N / 16 : Nat) : Int) from by omega) (by simp) rfl (by simp) ZO (by simpa using hc) (Nat.le_refl _) ?_
  refine Z01 ?_
  exact Z04 rfl
 apply Zu (L' := [Zy,Zy,Zy,Zy,Zy,Zz,Zz,Zz,Zz,Zz,Zz,Zz,Zz]) 4 (trivial)
 ·intro wS sS
  refine Zm (Z01 ?_)
  exact Z04 rfl
 apply Zu (L' := [Zy,Zy,Zy,Zy,Zy,Zy,Zz,Zz,Zz,Zz,Zz,Zz,Zz]) 5 (trivial)
 ·intro wS sS
  refine Z2e rfl rfl rfl rfl ZO (Z2E ZO) ?_
  refine Z01 ?_
  exact Z04 rfl
 refine Z0v (L' := [Zy,Zy,Zy,Zy,Zy,Zy,Zy,Zz,Zz,Zz,Zz,Zz,Zz]) 6 ZK rfl rfl ?_
 refine Z0j (s := 37) (v' := .int .i64 ((N % 16 : Nat) : Int)) rfl (by refine congrArg (Value.int _) ?_; omega) ?_
 refine Zp func83 (twoR (N % 16) ZO _) ?_
 refine Z01 ?_
 refine Z0n (trivial) ?_
 refine Z0v (L' := [Zy,Zy,Zy,Zy,Zy,Zy,Zy,Zy,Zz,Zz,Zz,Zz,Zz]) 7 ZK rfl rfl ?_
 refine Z0I rfl rfl func84 rfl rfl (.cons rfl (.cons rfl .nil)) (smallR _ (l.drop (N / 16)) _ _ (hR.drop (N / 16) hq) ⟨ZO, ZO⟩ (by rw [List.length_drop]; omega) w1.drew (H2.iarg h8)) ?_
 rintro _ w3 ⟨vq, lq, rfl, hRq, hG⟩
 have H3 := hG _ _ _ _ H2
 simp only [Zca, Zna] at H3
 refine Z01 ?_
 refine Z0n (trivial) ?_
 apply Zu (L' := [Zy,Zy,Zy,Zy,Zy,Zy,Zy,Zy,Zy,Zz,Zz,Zz,Zz]) 8 (trivial)
 ·intro wS sS
  refine Zm (Z01 ?_)
  exact Z04 rfl
 apply Zu (L' := [Zy,Zy,Zy,Zy,Zy,Zy,Zy,Zy,Zy,Zy,Zz,Zz,Zz]) 9 (trivial)
 ·intro wS sS
  refine Zx (Z01 ?_)
  exact Z04 rfl
 apply Zu (L' := [Zy,Zy,Zy,Zy,Zy,Zy,Zy,Zy,Zy,Zy,Zy,Zz,Zz]) 10 (trivial)
 ·intro wS sS
  refine Zx (Z01 ?_)
  exact Z04 rfl
 apply Zu (L' := [Zy,Zy,Zy,Zy,Zy,Zy,Zy,Zy,Zy,Zy,Zy,Zy,Zz]) 11 (trivial)
 ·intro wS sS
  refine Zg (Z01 ?_)
  exact Z04 rfl
 apply Zu (L' := [Zy,Zy,Zy,Zy,Zy,Zy,Zy,Zy,Zy,Zy,Zy,Zy,Zy]) 12 (trivial)
 ·intro wS sS
  refine Zg (Z01 ?_)
  exact Z04 rfl
 refine Z0B ZK ?_
 refine Z02 ?_
 refine Zk [6, 8, 9] ?_
 refine Z03 (Z00 (Zm (Zm (Zm ?_))))
 apply l_or 2 [42] rfl rfl (.cons rfl (.cons rfl .nil)) rfl rfl (fun _ => rfl) rfl rfl rfl
 ·intro hg9_3
  refine Zm ?_
  refine Zo ?_
  refine Z01 ?_
  exact Z0O rfl (.cons rfl (ZF hg9_3) (.cons rfl rfl .nil))
 refine Zg (Zg (Z01 (Z02 ?_)))
 refine Zk [4, 5] ?_
 refine Z0i ?_
 refine Z0P results73 rfl rfl ?_
 refine ⟨_, rfl, ?_⟩
 obtain rfl : k = N / 16 := by omega
 have hBp := Ma.pow_pos (show (0 : Int) < 65536 by omega) (N / 16)
 have eN : (65536 : Int) ^ (N / 16) * 2 ^ (N % 16) = 2 ^ N := by rw [p16, ← Int.pow_add, show 16 * (N / 16) + N % 16 = N from Nat.div_add_mod N 16]
 have hms := mod_split hn0 (65536 ^ (N / 16)) (2 ^ (N % 16)) hBp hpw
 rw [eN] at hms
 refine ⟨_, _, ?_, ?_, H3.grows⟩
 ·rw [rv_low hR _ hq, show decide (¬ n % 65536 ^ (N / 16) = 0 ∨ ¬ n / 65536 ^ (N / 16) % 2 ^ (N % 16) = 0) = decide (¬ n % 2 ^ N = 0) from decide_eq_decide.2 hms.symm]
  rfl
 rw [← eN, ← Int.ediv_ediv_of_nonneg (Int.le_of_lt hBp)]
 exact hRq
theorem blen_add {x y : Int} (hx0 : 0 ≤ x) (hy0 : 0 ≤ y) {m : Nat} (hx : Ma.blen x ≤ m) (hy : Ma.blen y ≤ m) : Ma.blen (x + y) ≤ (m + 1 : Nat) := by
 refine (Ma.blen_le_iff ZO (m + 1)).2 ?_
 have h1 := (Ma.blen_le_iff hx0 m).1 hx
 have h2 := (Ma.blen_le_iff hy0 m).1 hy
 rw [Int.pow_succ]
 omega
theorem R16.len_mono {l m : List Int} {a b : Int} (h : R16 l a) (k : R16 m b) (hab : a ≤ b) : l.length ≤ m.length := by
 rcases Nat.lt_or_ge m.length l.length with h1 | h1
 ·have := k.lt_of_len (show (1 : Int) < 65536 by omega) h h1
  omega
 exact h1
theorem Z3V {a b : Int} : cmpI a b < 0 ↔ a < b := by
 unfold cmpI
 split
 ·omega
 split <;> omega
theorem blen_shl {x : Int} (hx : 0 < x) (k : Nat) : Ma.blen (x * 2 ^ k) = Ma.blen x + k := by
 have := Ma.blen_shift (a := x) (r := 0) (k := k) hx ZO (Ma.pow_pos ZO k)
 rw [Int.zero_add, Int.mul_comm] at this
 omega
end Go.Proofs.YtgfkagaacdblbaaGreat.W
