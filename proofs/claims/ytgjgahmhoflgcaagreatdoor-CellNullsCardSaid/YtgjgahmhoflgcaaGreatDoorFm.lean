/- walks of nat.less, Sub -/
import Derived.Test.YtgjgahmhoflgcaaGreatDoorRd
set_option linter.unusedVariables false
set_option linter.unusedSimpArgs false
set_option maxRecDepth 10000
namespace Go.Proofs.YtgjgahmhoflgcaaGreatDoor.W
open Go.Vc Go.RowKit Tryz
theorem diff_place {W p S A C x y c s d : Int} (h : S = A - C + p * c) (h1 : s = x - y - c + W * d) : S + p * s = (A + p * x) - (C + p * y) + p * W * d := by
 rw [h, h1, Int.mul_add, Int.mul_sub, Int.mul_sub, ← Int.mul_assoc]
 omega
theorem Z6s {x y c : Int} (hx : 0 ≤ x ∧ x ≤ 18446744073709551615) (hy : 0 ≤ y ∧ y ≤ 18446744073709551615) (hc : 0 ≤ c ∧ c ≤ 1) : (x - y - c) % 18446744073709551616 = x - y - c + 18446744073709551616 * (if x < y + c then 1 else 0) := by
 split <;> omega
theorem bor_01 {x y : Int} : 0 ≤ (if x < y then (1 : Int) else 0) ∧ (if x < y then (1 : Int) else 0) ≤ 1 := by split <;> omega
theorem lessN (va b : Value) (la lb : List Int) (hUa : U la) (hUb : U lb) (hLa : la.length ≤ 1099511627776) (hLb : lb.length ≤ 1099511627776) (w : World) (hok : (As.ri 24 .u64 va la).ok w) (hlt : ∀ k, (As.ri 24 .u64 va la).fp k → k < w.heap.size) (hb : ∀ w1 : World, (∀ k, k < w.heap.size → ¬ (As.ri 24 .u64 va la).fp k → w1.heap[k]? = w.heap[k]?) → IV w1 b (ints .u64 lb)) :
  Z0f P 263 [va, b] w fun r w' => ∃ lo c, r = .int .u64 c ∧ U lo ∧ lo.length = la.length ∧ 0 ≤ c ∧ c ≤ 1 ∧ nv lo = nv la - nv (lb.take la.length) + 18446744073709551616 ^ la.length * c ∧ Turn w w' (As.ri 24 .u64 va la) (As.ri 24 .u64 va lo) := by
 refine Z0o func263 rfl ntmps263 rfl ?_
 have H0 := St.startM w hok hlt
 refine Z03 (Z00 (Zg (Z01 (Z02 ?_))))
 refine Zk [0, 1] ?_
 refine Z03 (Z00 (Zg (Z01 (Z02 (Z03 (Z03 (Z00 (Zm ?_))))))))
 refine Z0u rfl rfl underlying155 rfl (by first | exact H0.io mem0 | exact H0.ikM hb | assumption) ?_
 refine Zm (Z01 (Z02 ?_))
 refine Zk [0, 1, 5, 8, 9] ?_
 refine Z0d ?_
 refine Z0z (ι := Nat × List Int × Int) (fun (z0 : Nat × List Int × Int) => match z0 with | ⟨k, o, c⟩ => la.length - k) (fun (z0 : Nat × List Int × Int) (w' : World) => match z0 with | ⟨k, o, c⟩ => St w w.heap.size (As.ri 24 .u64 va la).fp ([As.ri 24 .u64 va o]) w' ∧ k ≤ la.length ∧ o.length = la.length ∧ U o ∧ 0 ≤ c ∧ c ≤ 1 ∧ (∀ j, k ≤ j → o.getD j 0 = la.getD j 0) ∧ nv (o.take k) = nv (la.take k) - nv (lb.take k) + 18446744073709551616 ^ k * c) (fun (z0 : Nat × List Int × Int) => match z0 with | ⟨k, o, c⟩ => [(5, .int .u64 c), (9, .int .i64 (k : Int))]) [0, 1, 8] (0, la, 0) ?_ (.cons rfl (.cons rfl (.cons rfl .nil))) ?_ ?_
 ·exact ⟨H0, ZO, rfl, hUa, ZO, ZO, fun _ _ => rfl, by simp [Ma.vb]⟩
 ·exact (.cons rfl ZN (.cons rfl ZN .nil))
 rintro ⟨k, o, c⟩ w1 ⟨H1, hk, hol, hUo, hc1, hc2, hrest, hval⟩
 show RunC P _ _ _ (_ :: _) _
 refine Z03 (Z00 ?_)
 refine Zl ?_
 refine Z01 (Z02 (Z03 ?_))
 (first | refine Z0c rfl ?_ ?_ | refine Z08 rfl ?_ ?_) <;> intro hc0
 ·refine Z0a (Z02 ?_)
  refine Zk [0, 1, 5, 8, 9] ?_
  refine Z03 (Z0d (Z03 (Z00 (Zm (Zg (Z01 (Z02 ?_)))))))
  refine Zk [0, 1, 5, 6, 8, 9] ?_
  have H2 := H1.drewn
  obtain ⟨A5, c5, hv5⟩ := (H2.io mem0).lies (by simp; omega)
  have hga5 := Z1j hUo k
  have hgb5 := Z1j hUb k
  refine Z1a (n := 17) [Zz,Zz,Zz,Zz,Zz,Zz,Zz,Zz,Zz,Zz,Zz,Zz,Zz,Zz,Zz,Zz,Zz] (fun wS => True) ZK rfl rfl ?_
  apply Zu (L' := [Zy,Zz,Zz,Zz,Zz,Zz,Zz,Zz,Zz,Zz,Zz,Zz,Zz,Zz,Zz,Zz,Zz]) 0 (trivial)
  ·intro wS sS
   refine Zm (Z01 ?_)
   exact Z04 rfl
  apply Zu (L' := [Zy,Zy,Zz,Zz,Zz,Zz,Zz,Zz,Zz,Zz,Zz,Zz,Zz,Zz,Zz,Zz,Zz]) 1 (trivial)
  ·intro wS sS
   refine Zm (Z01 ?_)
   exact Z04 rfl
  apply Zu (L' := [Zy,Zy,Zy,Zz,Zz,Zz,Zz,Zz,Zz,Zz,Zz,Zz,Zz,Zz,Zz,Zz,Zz]) 2 (trivial)
  ·intro wS sS
   refine Zm (Z01 ?_)
   exact Z04 rfl
  apply Zu (L' := [Zy,Zy,Zy,Zy,Zz,Zz,Zz,Zz,Zz,Zz,Zz,Zz,Zz,Zz,Zz,Zz,Zz]) 3 (trivial)
  ·intro wS sS
   refine Zm (Z01 ?_)
   exact Z04 rfl
  apply Zu (L' := [Zy,Zy,Zy,Zy,Zy,Zz,Zz,Zz,Zz,Zz,Zz,Zz,Zz,Zz,Zz,Zz,Zz]) 4 (trivial)
  ·intro wS sS
   refine Z1c (j := k) rfl rfl underlying155 tz24 rfl rfl hv5 ZP ZI ?_
   refine Z01 ?_
   exact Z04 rfl
  apply Zu (L' := [Zy,Zy,Zy,Zy,Zy,Zz,Zy,Zz,Zz,Zz,Zz,Zz,Zz,Zz,Zz,Zz,Zz]) 6 (trivial)
  ·intro wS sS
   refine Zm (Z01 ?_)
   exact Z04 rfl
  apply Zu (L' := [Zy,Zy,Zy,Zy,Zy,Zz,Zy,Zy,Zz,Zz,Zz,Zz,Zz,Zz,Zz,Zz,Zz]) 7 (trivial)
  ·intro wS sS
   refine Zm (Z01 ?_)
   exact Z04 rfl
  apply Zu (L' := [Zy,Zy,Zy,Zy,Zy,Zz,Zy,Zy,Zz,Zy,Zz,Zz,Zz,Zz,Zz,Zz,Zz]) 9 (trivial)
  ·intro wS sS
   refine Zm (Z01 ?_)
   exact Z04 rfl
  refine Z2B (L' := [Zy,Zy,Zy,Zy,Zy,Zy,Zy,Zy,Zz,Zy,Zz,Zz,Zz,Zz,Zz,Zz,Zz]) (L'' := [Zy,Zy,Zy,Zy,Zy,Zz,Zy,Zy,Zy,Zy,Zz,Zz,Zz,Zz,Zz,Zz,Zz]) 5 8 ZK rfl rfl rfl rfl ?_ ?_
  ·refine Z1u rfl rfl underlying24 rfl hv5 (by first | exact H2.io mem0 | exact H2.ikM hb | assumption) ZA ZI (fun hb5_5 => ?_)
   refine Z01 ?_
   refine Z0n (trivial) ?_
   refine Z0v (L' := [Zy,Zy,Zy,Zy,Zy,Zy,Zy,Zy,Zy,Zy,Zz,Zz,Zz,Zz,Zz,Zz,Zz]) 8 ZK rfl rfl ?_
   refine Zp func267 (atN b lb hUb k w1.drew (H2.ikM hb)) ?_
   refine Z01 ?_
   refine Z0n (trivial) ?_
   refine Z0v (L' := [Zy,Zy,Zy,Zy,Zy,Zy,Zy,Zy,Zy,Zy,Zy,Zz,Zz,Zz,Zz,Zz,Zz]) 10 ZK rfl rfl ?_
   refine Z25 rfl rfl func286 rfl rfl rfl rfl (.cons rfl (.cons rfl (.cons rfl .nil))) (Z5Q hga5 hgb5 ⟨hc1, hc2⟩ _) ?_
   refine Z01 ?_
   refine Z0n (trivial) ?_
   apply Zu (L' := [Zy,Zy,Zy,Zy,Zy,Zy,Zy,Zy,Zy,Zy,Zy,Zy,Zz,Zz,Zz,Zz,Zz]) 11 (trivial)
   ·intro wS sS
    refine Zm (Z01 ?_)
    exact Z04 rfl
   apply Zu (L' := [Zy,Zy,Zy,Zy,Zy,Zy,Zy,Zy,Zy,Zy,Zy,Zy,Zy,Zz,Zz,Zz,Zz]) 12 (trivial)
   ·intro wS sS
    refine Zx (Z01 ?_)
    exact Z04 rfl
   apply Zu (L' := [Zy,Zy,Zy,Zy,Zy,Zy,Zy,Zy,Zy,Zy,Zy,Zy,Zy,Zy,Zz,Zz,Zz]) 13 (trivial)
   ·intro wS sS
    refine Zx (Z01 ?_)
    exact Z04 rfl
   apply Zu (L' := [Zy,Zy,Zy,Zy,Zy,Zy,Zy,Zy,Zy,Zy,Zy,Zy,Zy,Zy,Zy,Zz,Zz]) 14 (trivial)
   ·intro wS sS
    refine Z1c (j := k) rfl rfl underlying155 tz24 rfl rfl hv5 ZP ZI ?_
    refine Z01 ?_
    exact Z04 rfl
   refine Z0v (L' := [Zy,Zy,Zy,Zy,Zy,Zy,Zy,Zy,Zy,Zy,Zy,Zy,Zy,Zy,Zy,Zy,Zz]) 15 ZK rfl rfl ?_
   refine Z1w H2 .head hv5 rfl tz24 rfl rfl ZI (fun w3 H3 => ?_)
   refine Z01 ?_
   refine Z0n (trivial) ?_
   apply Zu (L' := [Zy,Zy,Zy,Zy,Zy,Zy,Zy,Zy,Zy,Zy,Zy,Zy,Zy,Zy,Zy,Zy,Zy]) 16 (trivial)
   ·intro wS sS
    refine Zg (Z01 ?_)
    exact Z04 rfl
   refine Z0B ZK ?_
   refine Z0F ?_
   refine Z02 ?_
   refine Zk [0, 1, 5, 8, 9] ?_
   refine Z00 ?_
   refine Z0y rfl rfl rfl rfl (Z0l ZO) ?_
   refine Zm (Z01 ?_)
   refine Z0p (i := (k, o, c)) (k + 1, o.set k ((o.getD k 0 - lb.getD k 0 - c) % 18446744073709551616), if o.getD k 0 < lb.getD k 0 + c then 1 else 0) ?_ ?_ (.cons rfl (.cons rfl (.cons rfl .nil))) ?_
   ·first | omega | (simp; omega)
   ·have ho1 : o.getD k 0 = la.getD k 0 := hrest k (Nat.le_refl _)
    have hga := Z1j hUo k
    have hgb := Z1j hUb k
    have h1 := Ma.vb_set 18446744073709551616 o k ((o.getD k 0 - lb.getD k 0 - c) % 18446744073709551616) ZO
    have h2 := Ma.vb_take_succ 18446744073709551616 la k
    have h3 := Ma.vb_take_succ 18446744073709551616 lb k
    have hb1 := bor_01 (x := o.getD k 0) (y := lb.getD k 0 + c)
    refine ⟨H3, ZO, by simpa using hol, hUo.set ZO _, hb1.1, hb1.2, fun j hj => by rw [Z17 _ ZO]; exact hrest j ZO, ?_⟩
    show Ma.vb _ _ = Ma.vb _ _ - Ma.vb _ _ + _
    rw [h1, h2, h3, Int.pow_succ, ← ho1]
    exact diff_place hval (Z6s hga hgb ⟨hc1, hc2⟩)
   exact (.cons rfl ZN (.cons rfl ZN .nil))
  refine Zp func267 (atN b lb hUb k w1.drew (H2.ikM hb)) ?_
  refine Z01 ?_
  refine Z0n (trivial) ?_
  refine Z0v (L' := [Zy,Zy,Zy,Zy,Zy,Zy,Zy,Zy,Zy,Zy,Zz,Zz,Zz,Zz,Zz,Zz,Zz]) 5 ZK rfl rfl ?_
  refine Z1u rfl rfl underlying24 rfl hv5 (by first | exact H2.io mem0 | exact H2.ikM hb | assumption) ZA ZI (fun hb5_5 => ?_)
  refine Z01 ?_
  refine Z0n (trivial) ?_
  refine Z0v (L' := [Zy,Zy,Zy,Zy,Zy,Zy,Zy,Zy,Zy,Zy,Zy,Zz,Zz,Zz,Zz,Zz,Zz]) 10 ZK rfl rfl ?_
  refine Z25 rfl rfl func286 rfl rfl rfl rfl (.cons rfl (.cons rfl (.cons rfl .nil))) (Z5Q hga5 hgb5 ⟨hc1, hc2⟩ _) ?_
  refine Z01 ?_
  refine Z0n (trivial) ?_
  apply Zu (L' := [Zy,Zy,Zy,Zy,Zy,Zy,Zy,Zy,Zy,Zy,Zy,Zy,Zz,Zz,Zz,Zz,Zz]) 11 (trivial)
  ·intro wS sS
   refine Zm (Z01 ?_)
   exact Z04 rfl
  apply Zu (L' := [Zy,Zy,Zy,Zy,Zy,Zy,Zy,Zy,Zy,Zy,Zy,Zy,Zy,Zz,Zz,Zz,Zz]) 12 (trivial)
  ·intro wS sS
   refine Zx (Z01 ?_)
   exact Z04 rfl
  apply Zu (L' := [Zy,Zy,Zy,Zy,Zy,Zy,Zy,Zy,Zy,Zy,Zy,Zy,Zy,Zy,Zz,Zz,Zz]) 13 (trivial)
  ·intro wS sS
   refine Zx (Z01 ?_)
   exact Z04 rfl
  apply Zu (L' := [Zy,Zy,Zy,Zy,Zy,Zy,Zy,Zy,Zy,Zy,Zy,Zy,Zy,Zy,Zy,Zz,Zz]) 14 (trivial)
  ·intro wS sS
   refine Z1c (j := k) rfl rfl underlying155 tz24 rfl rfl hv5 ZP ZI ?_
   refine Z01 ?_
   exact Z04 rfl
  refine Z0v (L' := [Zy,Zy,Zy,Zy,Zy,Zy,Zy,Zy,Zy,Zy,Zy,Zy,Zy,Zy,Zy,Zy,Zz]) 15 ZK rfl rfl ?_
  refine Z1w H2 .head hv5 rfl tz24 rfl rfl ZI (fun w4 H4 => ?_)
  refine Z01 ?_
  refine Z0n (trivial) ?_
  apply Zu (L' := [Zy,Zy,Zy,Zy,Zy,Zy,Zy,Zy,Zy,Zy,Zy,Zy,Zy,Zy,Zy,Zy,Zy]) 16 (trivial)
  ·intro wS sS
   refine Zg (Z01 ?_)
   exact Z04 rfl
  refine Z0B ZK ?_
  refine Z0F ?_
  refine Z02 ?_
  refine Zk [0, 1, 5, 8, 9] ?_
  refine Z00 ?_
  refine Z0y rfl rfl rfl rfl (Z0l ZO) ?_
  refine Zm (Z01 ?_)
  refine Z0p (i := (k, o, c)) (k + 1, o.set k ((o.getD k 0 - lb.getD k 0 - c) % 18446744073709551616), if o.getD k 0 < lb.getD k 0 + c then 1 else 0) ?_ ?_ (.cons rfl (.cons rfl (.cons rfl .nil))) ?_
  ·first | omega | (simp; omega)
  ·have ho1 : o.getD k 0 = la.getD k 0 := hrest k (Nat.le_refl _)
   have hga := Z1j hUo k
   have hgb := Z1j hUb k
   have h1 := Ma.vb_set 18446744073709551616 o k ((o.getD k 0 - lb.getD k 0 - c) % 18446744073709551616) ZO
   have h2 := Ma.vb_take_succ 18446744073709551616 la k
   have h3 := Ma.vb_take_succ 18446744073709551616 lb k
   have hb1 := bor_01 (x := o.getD k 0) (y := lb.getD k 0 + c)
   refine ⟨H4, ZO, by simpa using hol, hUo.set ZO _, hb1.1, hb1.2, fun j hj => by rw [Z17 _ ZO]; exact hrest j ZO, ?_⟩
   show Ma.vb _ _ = Ma.vb _ _ - Ma.vb _ _ + _
   rw [h1, h2, h3, Int.pow_succ, ← ho1]
   exact diff_place hval (Z6s hga hgb ⟨hc1, hc2⟩)
  exact (.cons rfl ZN (.cons rfl ZN .nil))
 refine Z0H ?_
 refine Z06 ?_
 refine Z06 ?_
 refine Z0h ?_
 refine Z02 ?_
 refine Zk [5] ?_
 refine Z03 (Z00 (Zm (Zg (Z01 (Z02 ?_)))))
 refine Zk [4] ?_
 refine Z0i ?_
 refine Z0e results263 rfl ?_
 refine ⟨_, rfl, ?_⟩
 obtain rfl : k = la.length := by omega
 rw [List.take_of_length_le ZO, List.take_length] at hval
 exact ⟨o, c, rfl, hUo, hol, hc1, hc2, hval, H1.turns (fun k hk => .inl hk)⟩
theorem subN (a b : Value) (la lb : List Int) (hUa : U la) (hUb : U lb) (hLa : la.length ≤ 1099511627776) (hLb : lb.length ≤ 1099511627776) (w : World) (ha : IV w a (ints .u64 la)) (hb : IV w b (ints .u64 lb)) :
  Z0f P 238 [a, b] w fun r w' => SubR w w' r (nv la) (nv lb) := by
 refine Z0o func238 rfl ntmps238 rfl ?_
 have H0 := St.start w
 obtain ⟨A, ca, rfl, hca, hsa⟩ := ha
 have ha : IV w (.slice A (ints .u64 la).length ca) (ints .u64 la) := ⟨A, ca, rfl, hca, hsa⟩
 obtain ⟨A2, cb, rfl, hcb, hsb⟩ := hb
 have hb : IV w (.slice A2 (ints .u64 lb).length cb) (ints .u64 lb) := ⟨A2, cb, rfl, hcb, hsb⟩
 have hva := Z21 ha
 have hvb := Z21 hb
 have hta : (Ma.tr la).length ≤ la.length := (Ma.tr_take la).2.1
 have htb : (Ma.tr lb).length ≤ lb.length := (Ma.tr_take lb).2.1
 have hUa2 := hUa.tr
 have hUb2 := hUb.tr
 clear hsa hsb
 have cna : Ma.Cn 18446744073709551616 (Ma.tr la) (nv la) := Ma.Cn.of_tr hUa.dg rfl
 have cnb : Ma.Cn 18446744073709551616 (Ma.tr lb) (nv lb) := Ma.Cn.of_tr hUb.dg rfl
 refine Z03 (Z00 (Zg (Zg (Z01 (Z02 ?_)))))
 refine Zk [0, 1] ?_
 refine Z03 (Z03 (Z00 (Zm (Zm ?_))))
 refine Z0I rfl rfl func253 rfl rfl (.cons rfl (.cons rfl .nil)) (cmpN _ _ la lb hUa hUb hLa hLb w (H0.iarg ha) (H0.iarg hb)) ?_
 rintro _ w1 ⟨rfl, hG⟩
 have H1 := hG _ _ _ _ H0
 simp only [Zca, Zna] at H1
 refine Zl ?_
 refine Z01 (Z02 ?_)
 refine Zk [0, 1, 10] ?_
 (first | refine Z0c rfl ?_ ?_ | refine Z08 rfl ?_ ?_) <;> intro hc0
 ·refine Z03 (Z00 (Zg (Zg (Z01 (Z02 ?_)))))
  refine Zk [4, 5] ?_
  refine Z0i ?_
  refine Z07 ?_
  refine Z0P results238 rfl rfl ?_
  refine ⟨_, rfl, ?_⟩
  have hlt : nv la < nv lb := Z3V.1 hc0
  exact ⟨_, [], by rw [decide_eq_false ZO], by rw [if_neg ZO]; exact Ma.Cn.nil, (H1.nil 24).grows⟩
 refine Z0a (Z02 ?_)
 refine Zk [0, 1] ?_
 refine Z03 (Z00 (Zm ?_))
 refine Z0I rfl rfl func262 rfl rfl (.cons rfl .nil) (cloneN _ la hUa ZO w1 (H1.iarg ha)) ?_
 rintro vo w2 ⟨_, rfl, hG⟩
 have H2 := hG _ _ _ _ H1
 simp only [Zca, Zna] at H2
 refine Zg (Z01 (Z02 ?_))
 refine Zk [1, 6] ?_
 refine Z03 (Z00 (Zm (Zm ?_)))
 refine Zp func264 (trim A2 cb lb hUb ZO w2 (H2.iarg hb)) ?_
 refine Z0I rfl rfl func263 rfl rfl (.cons rfl (.cons rfl .nil)) (lessN vo _ (Ma.tr la) (Ma.tr lb) hUa2 hUb2 ZO ZO w2 (H2.ok mem0) (H2.rowlt mem0) (H2.keepsArg mem0 hvb)) ?_
 rintro _ w3 ⟨lo, c, rfl, hUo, hlo, hc1, hc2, hvo, hT⟩
 have H3 := hT _ _ _ _ _ .head H2
 refine Z01 (Z02 ?_)
 refine Zk [6] ?_
 refine Z03 (Z00 (Zm ?_))
 refine Zc func264 (Z2U hUo ZO (H3.io mem0)) ?_
 rintro vt w4 ⟨_, rfl, hT⟩
 have H4 := hT _ _ _ _ _ .head H3
 refine Zg (Zg (Z01 (Z02 ?_)))
 refine Zk [4, 5] ?_
 refine Z0i ?_
 refine Z0P results238 rfl rfl ?_
 refine ⟨_, rfl, ?_⟩
 have hge : nv lb ≤ nv la := by
  rcases Int.lt_or_le (nv la) (nv lb) with h | h
  ·exact absurd (Z3V.2 h) hc0
  exact h
 have hll : (Ma.tr lb).length ≤ (Ma.tr la).length := by
  rcases Nat.lt_or_ge (Ma.tr la).length (Ma.tr lb).length with h | h
  ·have := cna.lt_of_len (show (1 : Int) < 18446744073709551616 by omega) cnb h
   have h2 : nv la < nv lb := this
   omega
  exact h
 rw [List.take_of_length_le hll, Z3M, Z3M] at hvo
 have hlt : nv lo < 18446744073709551616 ^ lo.length := Ma.vb_lt (show (0 : Int) < 18446744073709551616 by omega) hUo.dg
 rw [hlo] at hlt
 have hcz : c = 0 := by
  have h01 : c = 0 ∨ c = 1 := by omega
  rcases h01 with h | h
  ·exact h
  rw [h] at hvo
  omega
 rw [hcz, Int.mul_zero, Int.add_zero] at hvo
 exact ⟨_, _, by rw [decide_eq_true hge], by rw [if_pos hge]; exact Ma.Cn.of_tr hUo.dg hvo, H4.grows⟩
/-! ### digits of a quotient, by the top limbs -/
theorem digit_top {P d W p d1 q : Int} (hW : 0 < W) (hq : 0 ≤ q) (hd : d1 * W ≤ d) (hP : P < (p + 1) * W) (h : q * d ≤ P) : q * d1 ≤ p := by
 have h1 : q * (d1 * W) ≤ q * d := Int.mul_le_mul_of_nonneg_left hd hq
 rw [← Int.mul_assoc] at h1
 have h2 : q * d1 * W < (p + 1) * W := by omega
 have := Int.lt_of_mul_lt_mul_right h2 (Int.le_of_lt hW)
 omega
theorem digit_less {P d W p d1 q g : Int} (hW : 0 < W) (hq : 0 ≤ q) (hd1 : 0 < d1) (hd : d1 * W ≤ d) (hP : P < (p + 1) * W) (h : q * d ≤ P) (hg : p < g * d1) : q < g := by
 have h1 := digit_top hW hq hd hP h
 have h2 : q * d1 < g * d1 := by omega
 exact Int.lt_of_mul_lt_mul_right h2 (Int.le_of_lt hd1)
theorem Z4e {l : List Int} (hU : U l) (m : Nat) (hl : l.length = m + 1) : ∃ s, 0 ≤ s ∧ s < 18446744073709551616 ^ m ∧ nv l = s + 18446744073709551616 ^ m * l.getD m 0 := by
 have h2 := Ma.vb_take_succ 18446744073709551616 l m
 rw [List.take_of_length_le ZO] at h2
 have b1 := Ma.vb_nonneg (show (0 : Int) < 18446744073709551616 by omega) (hU.dg.take m)
 have b2 := Ma.vb_lt (show (0 : Int) < 18446744073709551616 by omega) (hU.dg.take m)
 rw [List.length_take, Nat.min_eq_left ZO] at b2
 exact ⟨_, b1, b2, h2⟩
theorem U.takeN {l : List Int} (h : U l) (n : Nat) : U (l.take n) := fun x hx => h x (List.mem_of_mem_take hx)
theorem Z4f {l : List Int} {n j : Nat} (h : j < n) : (l.take n).getD j 0 = l.getD j 0 := by simp [List.getD, List.getElem?_take, h]
theorem nv_top2 {l : List Int} (hU : U l) (m : Nat) (hl : l.length = m + 2) : ∃ s, 0 ≤ s ∧ s < 18446744073709551616 ^ m ∧ nv l = s + 18446744073709551616 ^ m * (l.getD m 0 + 18446744073709551616 * l.getD (m + 1) 0) := by
 obtain ⟨s, h0, h1, e⟩ := Z4e (l := l.take (m + 1)) (hU.takeN _) m (by rw [List.length_take]; omega)
 have h2 := Ma.vb_take_succ 18446744073709551616 l (m + 1)
 rw [List.take_of_length_le (show l.length ≤ m + 1 + 1 by omega)] at h2
 rw [Z4f ZO] at e
 refine ⟨s, h0, h1, ?_⟩
 show Ma.vb _ _ = _
 rw [h2, show Ma.vb 18446744073709551616 (l.take (m + 1)) = _ from e, Int.pow_succ, Int.mul_add, Int.mul_assoc, Int.add_assoc]
theorem nv_top3 {l : List Int} (hU : U l) (m : Nat) (hl : l.length = m + 3) : ∃ s, 0 ≤ s ∧ s < 18446744073709551616 ^ m ∧ nv l = s + 18446744073709551616 ^ m * (l.getD m 0 + 18446744073709551616 * (l.getD (m + 1) 0 + 18446744073709551616 * l.getD (m + 2) 0)) := by
 obtain ⟨s, h0, h1, e⟩ := nv_top2 (l := l.take (m + 2)) (hU.takeN _) m (by rw [List.length_take]; omega)
 have h2 := Ma.vb_take_succ 18446744073709551616 l (m + 2)
 rw [List.take_of_length_le (show l.length ≤ m + 2 + 1 by omega)] at h2
 rw [Z4f ZO, Z4f ZO] at e
 refine ⟨s, h0, h1, ?_⟩
 show Ma.vb _ _ = _
 rw [h2, show Ma.vb 18446744073709551616 (l.take (m + 2)) = _ from e, Int.pow_succ, Int.pow_succ, Int.add_assoc, Int.mul_assoc, Int.mul_assoc, ← Int.mul_add]
 congr 2
 omega
theorem top_lt {s p x : Int} (h : s < p) : s + p * x < (x + 1) * p := by
 rw [Int.add_mul, Int.one_mul, Int.mul_comm x]
 omega
theorem guess_arith {X Y rs p0 p1 p2 : Int} (hp : p0 ≤ 18446744073709551615) (hg : X + rs = p2 * 18446744073709551616 + p1) (h : ¬ (Y / 18446744073709551616 < rs ∨ Y / 18446744073709551616 = rs ∧ Y % 18446744073709551616 ≤ p0)) : p0 + 18446744073709551616 * (p1 + 18446744073709551616 * p2) < Y + 18446744073709551616 * X := by
 omega
theorem guess_up {pl dl : List Int} (hUp : U pl) (hUd : U dl) (hp : pl.length = dl.length + 1) (hn : 2 ≤ dl.length) (hd1 : 0 < dl.getD (dl.length - 1) 0) :
  nv pl / nv dl ≤ (pl.getD dl.length 0 * 18446744073709551616 + pl.getD (dl.length - 1) 0) / dl.getD (dl.length - 1) 0 := by
 obtain ⟨m, hm⟩ : ∃ m, dl.length = m + 2 := ⟨dl.length - 2, ZO⟩
 rw [hm] at hp hd1 ⊢
 simp only [show m + 2 - 1 = m + 1 from by omega] at hd1 ⊢
 obtain ⟨s, s0, s1, ep⟩ := nv_top2 hUp (m + 1) ZO
 obtain ⟨t, t0, t1, ed⟩ := Z4e hUd (m + 1) ZO
 have hW := Ma.pow_pos (show (0 : Int) < 18446744073709551616 by omega) (m + 1)
 have hdp : 0 < nv dl := by
  have := Int.mul_pos hW hd1
  omega
 have hq : 0 ≤ nv pl / nv dl := Int.ediv_nonneg hUp.nv_nonneg ZO
 rw [Int.le_ediv_iff_mul_le hd1]
 refine digit_top (P := nv pl) (d := nv dl) hW hq (by rw [ed, Int.mul_comm]; omega) ?_ (Int.ediv_mul_le _ ZO)
 have e : pl.getD (m + 1) 0 + 18446744073709551616 * pl.getD (m + 1 + 1) 0 = pl.getD (m + 2) 0 * 18446744073709551616 + pl.getD (m + 1) 0 := by
  show _ + 18446744073709551616 * pl.getD (m + 2) 0 = _
  omega
 rw [ep, e]
 exact top_lt s1
theorem guess_dn {pl dl : List Int} (hUp : U pl) (hUd : U dl) (hp : pl.length = dl.length + 1) (hn : 2 ≤ dl.length) (hd1 : 0 < dl.getD (dl.length - 1) 0) {g rs : Int}
  (hg : g * dl.getD (dl.length - 1) 0 + rs = pl.getD dl.length 0 * 18446744073709551616 + pl.getD (dl.length - 1) 0)
  (h : ¬ (g * dl.getD (dl.length - 2) 0 / 18446744073709551616 < rs ∨ g * dl.getD (dl.length - 2) 0 / 18446744073709551616 = rs ∧ g * dl.getD (dl.length - 2) 0 % 18446744073709551616 ≤ pl.getD (dl.length - 2) 0)) : nv pl / nv dl < g := by
 obtain ⟨m, hm⟩ : ∃ m, dl.length = m + 2 := ⟨dl.length - 2, ZO⟩
 rw [hm] at hp hd1 hg h
 simp only [show m + 2 - 1 = m + 1 from by omega, show m + 2 - 2 = m from by omega] at hd1 hg h
 obtain ⟨s, s0, s1, ep⟩ := nv_top3 hUp m ZO
 obtain ⟨t, t0, t1, ed⟩ := nv_top2 hUd m ZO
 have hW := Ma.pow_pos (show (0 : Int) < 18446744073709551616 by omega) m
 have hd0 := (Z1j hUd m).1
 have hdd : 0 < dl.getD m 0 + 18446744073709551616 * dl.getD (m + 1) 0 := by omega
 have hdp : 0 < nv dl := by
  have := Int.mul_pos hW hdd
  omega
 have hq : 0 ≤ nv pl / nv dl := Int.ediv_nonneg hUp.nv_nonneg ZO
 refine digit_less (W := 18446744073709551616 ^ m) (P := nv pl) (d := nv dl) (p := pl.getD m 0 + 18446744073709551616 * (pl.getD (m + 1) 0 + 18446744073709551616 * pl.getD (m + 2) 0)) hW hq hdd (by rw [ed, Int.mul_comm]; omega) ?_ (Int.ediv_mul_le _ ZO) ?_
 ·rw [ep]
  exact top_lt s1
 have e : g * (dl.getD m 0 + 18446744073709551616 * dl.getD (m + 1) 0) = g * dl.getD m 0 + 18446744073709551616 * (g * dl.getD (m + 1) 0) := by rw [Int.mul_add, Int.mul_left_comm]
 rw [e]
 exact guess_arith (Z1j hUp m).2 hg h
theorem guessN (vp vd : Value) (pl dl : List Int) (hUp : U pl) (hUd : U dl) (hpl : pl.length = dl.length + 1) (hn : 2 ≤ dl.length) (hL : dl.length ≤ 1073741824) (hd1 : 0 < dl.getD (dl.length - 1) 0) (hlt : nv pl < 18446744073709551616 * nv dl) (w : World) (hp : IV w vp (ints .u64 pl)) (hd : IV w vd (ints .u64 dl)) :
  Z0f P 290 [vp, vd] w fun r w' => ∃ g, r = .int .u64 g ∧ 0 ≤ g ∧ g ≤ 18446744073709551615 ∧ nv pl / nv dl ≤ g ∧ Grow w w' [] := by
 refine Z0o func290 rfl ntmps290 rfl ?_
 have H0 := St.start w
 have hq0 : 0 ≤ nv pl / nv dl := Int.ediv_nonneg hUp.nv_nonneg hUd.nv_nonneg
 have hdpos : 0 < nv dl := by
  have := hUp.nv_nonneg
  omega
 have hqW : nv pl / nv dl < 18446744073709551616 := Int.ediv_lt_of_lt_mul hdpos hlt
 refine Z03 (Z00 (Zg (Z01 (Z02 ?_))))
 refine Zk [0, 1] ?_
 refine Z03 (Z00 (Zm ?_))
 refine Z0u rfl rfl underlying155 rfl (by first | exact H0.iarg hp | exact H0.iarg hd | assumption) ?_
 refine Zg (Z01 (Z02 ?_))
 refine Zk [0, 1, 5] ?_
 refine Z03 (Z03 ?_)
 refine Z2F ZK ZK ?_
 have H1 := H0.drewn
 refine Zm (Zm ?_)
 refine Z0T (j := dl.length) rfl rfl rfl rfl underlying155 tz24 underlying24 rfl rfl (by first | exact H1.iarg hp | exact H1.iarg hd | assumption) ZA rfl ZO ZI (fun hb2_2 => ?_)
 refine Zm (Zm ?_)
 refine Z0W rfl rfl rfl rfl (Z0l ZO) ?_
 refine Z0T (j := dl.length - 1) rfl rfl rfl rfl underlying155 tz24 underlying24 rfl rfl (by first | exact H1.iarg hp | exact H1.iarg hd | assumption) ZA rfl ZO ZI (fun hb2_7 => ?_)
 refine Zh ?_
 refine Z01 (Z02 ?_)
 refine Zk [0, 1, 5, 22] ?_
 (first | refine Z0c rfl ?_ ?_ | refine Z08 rfl ?_ ?_) <;> intro hc0
 ·refine Z03 (Z00 (Zg (Z01 (Z02 ?_))))
  refine Zk [4] ?_
  refine Z0i ?_
  refine Z07 ?_
  refine Z0e results290 rfl ?_
  refine ⟨_, rfl, ?_⟩
  exact ⟨_, rfl, ZO, ZO, ZO, H1.grows⟩
 refine Z0a (Z02 ?_)
 refine Zk [0, 1, 5] ?_
 refine Z03 ?_
 have H2 := H1.drewn
 obtain ⟨Ap4, cp4, hvp4⟩ := hp.lies (by simp; omega)
 obtain ⟨Ad4, cd4, hvd4⟩ := hd.lies (by simp; omega)
 have hb4_2 := Z1j hUp dl.length
 have hb4_7 := Z1j hUp (dl.length - 1)
 have hb4_12 := Z1j hUd (dl.length - 1)
 refine Z1a (n := 20) [Zz,Zz,Zz,Zz,Zz,Zz,Zz,Zz,Zz,Zz,Zz,Zz,Zz,Zz,Zz,Zz,Zz,Zz,Zz,Zz] (fun wS => IS wS .u64 vp pl ∧ IS wS .u64 vd dl) ZK rfl rfl ?_
 apply Zu (L' := [Zy,Zz,Zz,Zz,Zz,Zz,Zz,Zz,Zz,Zz,Zz,Zz,Zz,Zz,Zz,Zz,Zz,Zz,Zz,Zz]) 0 (⟨H2.iarg hp, H2.iarg hd⟩)
 ·intro wS sS
  refine Zm (Z01 ?_)
  exact Z04 rfl
 apply Zu (L' := [Zy,Zy,Zz,Zz,Zz,Zz,Zz,Zz,Zz,Zz,Zz,Zz,Zz,Zz,Zz,Zz,Zz,Zz,Zz,Zz]) 1 (⟨H2.iarg hp, H2.iarg hd⟩)
 ·intro wS sS
  refine Zm (Z01 ?_)
  exact Z04 rfl
 apply Zu (L' := [Zy,Zy,Zy,Zz,Zz,Zz,Zz,Zz,Zz,Zz,Zz,Zz,Zz,Zz,Zz,Zz,Zz,Zz,Zz,Zz]) 2 (⟨H2.iarg hp, H2.iarg hd⟩)
 ·intro wS sS
  refine Z1c (j := dl.length) rfl rfl underlying155 tz24 rfl rfl hvp4 ZP ZI ?_
  refine Z01 ?_
  exact Z04 rfl
 apply Zu (L' := [Zy,Zy,Zy,Zy,Zz,Zz,Zz,Zz,Zz,Zz,Zz,Zz,Zz,Zz,Zz,Zz,Zz,Zz,Zz,Zz]) 3 (⟨H2.iarg hp, H2.iarg hd⟩)
 ·intro wS sS
  refine Z1u rfl rfl underlying24 rfl hvp4 (by first | exact sS.1 | exact sS.2 | exact H2.iarg hp | exact H2.iarg hd | assumption) ZA ZI (fun hb4_3 => ?_)
  refine Z01 ?_
  exact Z04 rfl
 apply Zu (L' := [Zy,Zy,Zy,Zy,Zy,Zz,Zz,Zz,Zz,Zz,Zz,Zz,Zz,Zz,Zz,Zz,Zz,Zz,Zz,Zz]) 4 (⟨H2.iarg hp, H2.iarg hd⟩)
 ·intro wS sS
  refine Zm (Z01 ?_)
  exact Z04 rfl
 apply Zu (L' := [Zy,Zy,Zy,Zy,Zy,Zy,Zz,Zz,Zz,Zz,Zz,Zz,Zz,Zz,Zz,Zz,Zz,Zz,Zz,Zz]) 5 (⟨H2.iarg hp, H2.iarg hd⟩)
 ·intro wS sS
  refine Zm (Z01 ?_)
  exact Z04 rfl
 apply Zu (L' := [Zy,Zy,Zy,Zy,Zy,Zy,Zy,Zz,Zz,Zz,Zz,Zz,Zz,Zz,Zz,Zz,Zz,Zz,Zz,Zz]) 6 (⟨H2.iarg hp, H2.iarg hd⟩)
 ·intro wS sS
  refine Z0W rfl rfl rfl rfl (Z0l ZO) ?_
  refine Z01 ?_
  exact Z04 rfl
 apply Zu (L' := [Zy,Zy,Zy,Zy,Zy,Zy,Zy,Zy,Zz,Zz,Zz,Zz,Zz,Zz,Zz,Zz,Zz,Zz,Zz,Zz]) 7 (⟨H2.iarg hp, H2.iarg hd⟩)
 ·intro wS sS
  refine Z1c (j := dl.length - 1) rfl rfl underlying155 tz24 rfl rfl hvp4 ZP ZI ?_
  refine Z01 ?_
  exact Z04 rfl
 apply Zu (L' := [Zy,Zy,Zy,Zy,Zy,Zy,Zy,Zy,Zy,Zz,Zz,Zz,Zz,Zz,Zz,Zz,Zz,Zz,Zz,Zz]) 8 (⟨H2.iarg hp, H2.iarg hd⟩)
 ·intro wS sS
  refine Z1u rfl rfl underlying24 rfl hvp4 (by first | exact sS.1 | exact sS.2 | exact H2.iarg hp | exact H2.iarg hd | assumption) ZA ZI (fun hb4_8 => ?_)
  refine Z01 ?_
  exact Z04 rfl
 apply Zu (L' := [Zy,Zy,Zy,Zy,Zy,Zy,Zy,Zy,Zy,Zy,Zz,Zz,Zz,Zz,Zz,Zz,Zz,Zz,Zz,Zz]) 9 (⟨H2.iarg hp, H2.iarg hd⟩)
 ·intro wS sS
  refine Zm (Z01 ?_)
  exact Z04 rfl
 apply Zu (L' := [Zy,Zy,Zy,Zy,Zy,Zy,Zy,Zy,Zy,Zy,Zy,Zz,Zz,Zz,Zz,Zz,Zz,Zz,Zz,Zz]) 10 (⟨H2.iarg hp, H2.iarg hd⟩)
 ·intro wS sS
  refine Zm (Z01 ?_)
  exact Z04 rfl
 apply Zu (L' := [Zy,Zy,Zy,Zy,Zy,Zy,Zy,Zy,Zy,Zy,Zy,Zy,Zz,Zz,Zz,Zz,Zz,Zz,Zz,Zz]) 11 (⟨H2.iarg hp, H2.iarg hd⟩)
 ·intro wS sS
  refine Z0W rfl rfl rfl rfl (Z0l ZO) ?_
  refine Z01 ?_
  exact Z04 rfl
 apply Zu (L' := [Zy,Zy,Zy,Zy,Zy,Zy,Zy,Zy,Zy,Zy,Zy,Zy,Zy,Zz,Zz,Zz,Zz,Zz,Zz,Zz]) 12 (⟨H2.iarg hp, H2.iarg hd⟩)
 ·intro wS sS
  refine Z1c (j := dl.length - 1) rfl rfl underlying155 tz24 rfl rfl hvd4 ZP ZI ?_
  refine Z01 ?_
  exact Z04 rfl
 apply Zu (L' := [Zy,Zy,Zy,Zy,Zy,Zy,Zy,Zy,Zy,Zy,Zy,Zy,Zy,Zy,Zz,Zz,Zz,Zz,Zz,Zz]) 13 (⟨H2.iarg hp, H2.iarg hd⟩)
 ·intro wS sS
  refine Z1u rfl rfl underlying24 rfl hvd4 (by first | exact sS.1 | exact sS.2 | exact H2.iarg hp | exact H2.iarg hd | assumption) ZA ZI (fun hb4_13 => ?_)
  refine Z01 ?_
  exact Z04 rfl
 refine Z0v (L' := [Zy,Zy,Zy,Zy,Zy,Zy,Zy,Zy,Zy,Zy,Zy,Zy,Zy,Zy,Zy,Zz,Zz,Zz,Zz,Zz]) 14 ZK rfl rfl ?_
 refine Z0I rfl rfl func272 rfl rfl (.cons rfl (.cons rfl (.cons rfl .nil))) (div64 _ _ _ ⟨hb4_2.1, ZO⟩ hb4_7 hb4_12.2 (w.drew).drew) ?_
 rintro _ w3 ⟨rfl, hG⟩
 have H3 := hG _ _ _ _ H2
 simp only [Zca, Zna] at H3
 refine Z01 ?_
 refine Z0n (⟨H3.iarg hp, H3.iarg hd⟩) ?_
 apply Zu (L' := [Zy,Zy,Zy,Zy,Zy,Zy,Zy,Zy,Zy,Zy,Zy,Zy,Zy,Zy,Zy,Zy,Zz,Zz,Zz,Zz]) 15 (⟨H3.iarg hp, H3.iarg hd⟩)
 ·intro wS sS
  refine Zm (Z01 ?_)
  exact Z04 rfl
 apply Zu (L' := [Zy,Zy,Zy,Zy,Zy,Zy,Zy,Zy,Zy,Zy,Zy,Zy,Zy,Zy,Zy,Zy,Zy,Zz,Zz,Zz]) 16 (⟨H3.iarg hp, H3.iarg hd⟩)
 ·intro wS sS
  refine Zx (Z01 ?_)
  exact Z04 rfl
 apply Zu (L' := [Zy,Zy,Zy,Zy,Zy,Zy,Zy,Zy,Zy,Zy,Zy,Zy,Zy,Zy,Zy,Zy,Zy,Zy,Zz,Zz]) 17 (⟨H3.iarg hp, H3.iarg hd⟩)
 ·intro wS sS
  refine Zx (Z01 ?_)
  exact Z04 rfl
 apply Zu (L' := [Zy,Zy,Zy,Zy,Zy,Zy,Zy,Zy,Zy,Zy,Zy,Zy,Zy,Zy,Zy,Zy,Zy,Zy,Zy,Zz]) 18 (⟨H3.iarg hp, H3.iarg hd⟩)
 ·intro wS sS
  refine Zg (Z01 ?_)
  exact Z04 rfl
 apply Zu (L' := [Zy,Zy,Zy,Zy,Zy,Zy,Zy,Zy,Zy,Zy,Zy,Zy,Zy,Zy,Zy,Zy,Zy,Zy,Zy,Zy]) 19 (⟨H3.iarg hp, H3.iarg hd⟩)
 ·intro wS sS
  refine Zg (Z01 ?_)
  exact Z04 rfl
 refine Z0B ZK ?_
 refine Z02 ?_
 refine Zk [0, 1, 5, 6, 7] ?_
 refine Z0d ?_
 refine Z0z (ι := Int × Int) (fun (z0 : Int × Int) => match z0 with | ⟨g, rs⟩ => g.toNat) (fun (z0 : Int × Int) (w' : World) => match z0 with | ⟨g, rs⟩ => St w w.heap.size Z0J ([]) w' ∧ 0 ≤ g ∧ g ≤ 18446744073709551615 ∧ 0 ≤ rs ∧ rs ≤ 18446744073709551615 ∧ g * dl.getD (dl.length - 1) 0 + rs = pl.getD dl.length 0 * 18446744073709551616 + pl.getD (dl.length - 1) 0 ∧ nv pl / nv dl ≤ g) (fun (z0 : Int × Int) => match z0 with | ⟨g, rs⟩ => [(6, .int .u64 g), (7, .int .u64 rs)]) [0, 1, 5] ((pl.getD dl.length 0 * 18446744073709551616 + pl.getD (dl.length - 1) 0) / dl.getD (dl.length - 1) 0, (pl.getD dl.length 0 * 18446744073709551616 + pl.getD (dl.length - 1) 0) % dl.getD (dl.length - 1) 0) ?_ (.cons rfl (.cons rfl (.cons rfl .nil))) ?_ ?_
 ·have hgu := guess_up hUp hUd hpl hn hd1
  have hm0 := Int.emod_nonneg (pl.getD dl.length 0 * 18446744073709551616 + pl.getD (dl.length - 1) 0) (show dl.getD (dl.length - 1) 0 ≠ 0 by omega)
  have hm1 := Int.emod_lt_of_pos (pl.getD dl.length 0 * 18446744073709551616 + pl.getD (dl.length - 1) 0) hd1
  have hme := Int.emod_add_mul_ediv (pl.getD dl.length 0 * 18446744073709551616 + pl.getD (dl.length - 1) 0) (dl.getD (dl.length - 1) 0)
  rw [Int.mul_comm (dl.getD (dl.length - 1) 0)] at hme
  have hgl : (pl.getD dl.length 0 * 18446744073709551616 + pl.getD (dl.length - 1) 0) / dl.getD (dl.length - 1) 0 < 18446744073709551616 := Int.ediv_lt_of_lt_mul hd1 ZO
  exact ⟨H3, ZO, ZO, hm0, ZO, ZO, hgu⟩
 ·exact (.cons rfl ZN (.cons rfl ZN .nil))
 rintro ⟨g, rs⟩ w4 ⟨H4, hg0, hg1, hr0, hr1, hgr, hqg⟩
 show RunC P _ _ _ (_ :: _) _
 refine Z0d (Z03 (Z00 (Zm (Zm (Zm ?_)))))
 refine Z0W rfl rfl rfl rfl (Z0l ZO) ?_
 refine Z0T (j := dl.length - 2) rfl rfl rfl rfl underlying155 tz24 underlying24 rfl rfl (by first | exact H4.iarg hp | exact H4.iarg hd | assumption) ZA rfl ZO ZI (fun hb5_4 => ?_)
 refine Z13 rfl rfl func269 rfl rfl (.cons rfl (.cons rfl .nil)) (mul64 _ _ ⟨hg0, hg1⟩ ZA _) ?_
 refine Zm ?_
 refine Zx (Zx (Zg (Zg (Z01 (Z02 ?_)))))
 refine Zk [0, 1, 5, 6, 7, 8, 9] ?_
 refine Z03 (Z03 (Z00 (Zm (Zm ?_))))
 refine Zl ?_
 refine Zm ?_
 apply l_or (q := g * dl.getD (dl.length - 2) 0 / 18446744073709551616 = rs ∧ g * dl.getD (dl.length - 2) 0 % 18446744073709551616 ≤ pl.getD (dl.length - 2) 0) 12 [0, 1, 5, 6, 7] rfl rfl (.cons rfl (.cons rfl (.cons rfl (.cons rfl (.cons rfl (.cons rfl .nil)))))) rfl rfl (fun _ => rfl) rfl rfl rfl
 ·intro hg6_4
  refine Zm (Zm ?_)
  refine Ze ?_
  refine Zm ?_
  apply Z47 (q := g * dl.getD (dl.length - 2) 0 % 18446744073709551616 ≤ pl.getD (dl.length - 2) 0) 7 [0, 1, 5, 6, 7, 54] rfl rfl (.cons rfl (.cons rfl (.cons rfl (.cons rfl (.cons rfl (.cons rfl (.cons rfl .nil))))))) rfl rfl (fun _ => rfl) rfl rfl rfl
  ·intro hg6_8
   refine Zm (Zm (Zm ?_))
   refine Z0W rfl rfl rfl rfl (Z0l ZO) ?_
   refine Z0T (j := dl.length - 2) rfl rfl rfl rfl underlying155 tz24 underlying24 rfl rfl (by first | exact H4.iarg hp | exact H4.iarg hd | assumption) ZA rfl ZO ZI (fun hb6_12 => ?_)
   refine Zf ?_
   refine Z01 ?_
   exact Z0O rfl (.cons rfl (ZT hg6_8) (.cons rfl rfl (.cons rfl rfl (.cons rfl rfl (.cons rfl rfl (.cons rfl rfl (.cons rfl rfl .nil)))))))
   all_goals infer_instance
  refine Z01 ?_
  exact Z0O rfl (.cons rfl (ZF hg6_4) (.cons rfl rfl (.cons rfl rfl (.cons rfl rfl (.cons rfl rfl (.cons rfl rfl .nil))))))
  all_goals infer_instance
 refine Z01 (Z02 ?_)
 refine Zk [0, 1, 5, 6, 7, 67] ?_
 (first | refine Z0c rfl ?_ ?_ | refine Z08 rfl ?_ ?_) <;> intro hc1
 ·refine Z03 (Z00 (Zm (Zg (Z01 (Z02 ?_)))))
  refine Zk [4] ?_
  refine Z0i ?_
  refine Z07 ?_
  refine Z0k ?_
  refine Z07 ?_
  refine Z0k ?_
  refine Z0e results290 rfl ?_
  refine ⟨_, rfl, ?_⟩
  exact ⟨_, rfl, hg0, hg1, hqg, H4.grows⟩
 refine Z0a (Z02 ?_)
 refine Zk [0, 1, 5, 6, 7] ?_
 refine Z03 (Z00 ?_)
 have hless := guess_dn hUp hUd hpl hn hd1 hgr hc1
 refine Zm ?_
 refine Z0W rfl rfl rfl rfl (Z1p ZO) ?_
 refine Zg (Z01 (Z02 ?_))
 refine Zk [0, 1, 5, 6, 7] ?_
 refine Z03 (Z00 (Zg (Z01 (Z02 ?_))))
 refine Zk [0, 1, 5, 6, 7] ?_
 refine Z03 (Z00 (Zm (Zm (Zm ?_))))
 refine Z0W rfl rfl rfl rfl (Z0l ZO) ?_
 refine Z0T (j := dl.length - 1) rfl rfl rfl rfl underlying155 tz24 underlying24 rfl rfl (by first | exact H4.iarg hp | exact H4.iarg hd | assumption) ZA rfl ZO ZI (fun hb10_4 => ?_)
 refine Z25 rfl rfl func266 rfl rfl rfl rfl (.cons rfl (.cons rfl (.cons rfl .nil))) (run_add64 _ _ _ hr0 hb10_4.1 ZO ZO _) ?_
 refine Zm ?_
 refine Zx (Zx (Zg (Zg (Z01 (Z02 ?_)))))
 refine Zk [0, 1, 5, 6, 7, 10] ?_
 refine Z03 (Z00 (Zm ?_))
 refine Ze ?_
 refine Z01 (Z02 ?_)
 refine Zk [0, 1, 5, 6, 7, 82] ?_
 (first | refine Z0c rfl ?_ ?_ | refine Z08 rfl ?_ ?_) <;> intro hc2
 ·refine Z03 (Z00 (Zm (Zg (Z01 (Z02 ?_)))))
  refine Zk [4] ?_
  refine Z0i ?_
  refine Z0k ?_
  refine Z07 ?_
  refine Z0k ?_
  refine Z0e results290 rfl ?_
  refine ⟨_, rfl, ?_⟩
  exact ⟨_, rfl, ZO, ZO, ZO, H4.grows⟩
 refine Z0a ?_
 refine Z0F ?_
 refine Z0p (i := (g, rs)) (g - 1, rs + dl.getD (dl.length - 1) 0) ?_ ?_ (.cons rfl (.cons rfl (.cons rfl .nil))) ?_
 ·first | omega | (simp; omega)
 ·have hsub : (g - 1) * dl.getD (dl.length - 1) 0 = g * dl.getD (dl.length - 1) 0 - dl.getD (dl.length - 1) 0 := by rw [Int.sub_mul, Int.one_mul]
  exact ⟨H4, ZO, ZO, ZO, ZO, ZO, ZO⟩
 exact (.cons rfl ZN (.cons rfl ZN .nil))
theorem times_place {p V A x g d cy bo hi lo s1 c1 nw b : Int} (h : V = A + p * cy + p * bo) (h1 : hi * 18446744073709551616 + lo = d * g) (h2 : s1 + c1 * 18446744073709551616 = lo + cy) (h3 : nw = x - s1 - bo + 18446744073709551616 * b) :
  V + p * (nw - x) = A - p * (g * d) + p * 18446744073709551616 * (hi + c1) + p * 18446744073709551616 * b := by
 have e : nw - x = 18446744073709551616 * (hi + c1) + 18446744073709551616 * b - g * d - cy - bo := by rw [Int.mul_comm g d]; omega
 rw [e, h, Int.mul_sub, Int.mul_sub, Int.mul_sub, Int.mul_add, ← Int.mul_assoc, ← Int.mul_assoc]
 omega
theorem times_last {p V A x cy bo nw b : Int} (h : V = A + p * cy + p * bo) (h3 : nw = x - cy - bo + 18446744073709551616 * b) : V + p * (nw - x) = A + p * 18446744073709551616 * b := by
 have e : nw - x = 18446744073709551616 * b - cy - bo := by omega
 rw [e, h, Int.mul_sub, Int.mul_sub, ← Int.mul_assoc]
 omega
theorem more_place {p V A x y c : Int} (h : V = A - p * c) : V + p * ((x + y + c) % 18446744073709551616 - x) = A + p * y - p * 18446744073709551616 * ((x + y + c) / 18446744073709551616) := by
 have e : (x + y + c) % 18446744073709551616 - x = y + c - 18446744073709551616 * ((x + y + c) / 18446744073709551616) := by omega
 rw [e, h, Int.mul_sub, Int.mul_add, ← Int.mul_assoc]
 omega
theorem timesN (va vd : Value) (ad : Addr) (rl dl : List Int) (n c c' i : Nat) (hvE : va = .slice (some ad) n c) (hnE : n = rl.length) (hcvE : dl.length + 1 ≤ c') (hUr : U rl) (hUd : U dl) (hLr : rl.length ≤ 1099511627776) (hi : i + dl.length + 1 ≤ rl.length) (g : Int) (hg : 0 ≤ g ∧ g ≤ 18446744073709551615) (w : World) (hok : (As.ri 24 .u64 va rl).ok w) (hlt : ∀ k, (As.ri 24 .u64 va rl).fp k → k < w.heap.size) (hd : ∀ w1 : World, (∀ k, k < w.heap.size → ¬ (As.ri 24 .u64 va rl).fp k → w1.heap[k]? = w.heap[k]?) → IV w1 vd (ints .u64 dl)) :
  Z0f P 291 [.slice ((some ad).map (·.add i)) (dl.length + 1) c', vd, .int .u64 g] w fun r w' => ∃ ro b, r = .int .u64 b ∧ U ro ∧ ro.length = rl.length ∧ 0 ≤ b ∧ b ≤ 1 ∧ (∀ k, i + dl.length + 1 ≤ k → ro.getD k 0 = rl.getD k 0) ∧ nv ro = nv rl - 18446744073709551616 ^ i * (g * nv dl) + 18446744073709551616 ^ (i + dl.length + 1) * b ∧ Turn w w' (As.ri 24 .u64 va rl) (As.ri 24 .u64 va ro) := by
 refine Z0o func291 rfl ntmps291 rfl ?_
 have H0 := St.startM w hok hlt
 refine Z03 (Z00 (Zg (Z01 (Z02 ?_))))
 refine Zk [0, 1, 2] ?_
 refine Z03 (Z00 (Zg (Zg (Z01 (Z02 (Z03 (Z03 (Z00 (Zm ?_)))))))))
 refine Z0u rfl rfl underlying155 rfl (by first | exact H0.io mem0 | exact H0.ikM hd | assumption) ?_
 refine Zm (Z01 (Z02 ?_))
 refine Zk [0, 1, 2, 7, 8, 14, 15] ?_
 refine Z0d ?_
 refine Z0z (ι := Nat × List Int × Int × Int) (fun (z0 : Nat × List Int × Int × Int) => match z0 with | ⟨j, o, cy, bo⟩ => dl.length - j) (fun (z0 : Nat × List Int × Int × Int) (w' : World) => match z0 with | ⟨j, o, cy, bo⟩ => St w w.heap.size (As.ri 24 .u64 va rl).fp ([As.ri 24 .u64 va o]) w' ∧ j ≤ dl.length ∧ o.length = rl.length ∧ U o ∧ 0 ≤ cy ∧ cy ≤ 18446744073709551615 ∧ 0 ≤ bo ∧ bo ≤ 1 ∧ (∀ k, i + j ≤ k → o.getD k 0 = rl.getD k 0) ∧ nv o = nv rl - 18446744073709551616 ^ i * (g * nv (dl.take j)) + 18446744073709551616 ^ (i + j) * cy + 18446744073709551616 ^ (i + j) * bo) (fun (z0 : Nat × List Int × Int × Int) => match z0 with | ⟨j, o, cy, bo⟩ => [(7, .int .u64 cy), (8, .int .u64 bo), (15, .int .i64 (j : Int))]) [0, 1, 2, 14] (0, rl, 0, 0) ?_ (.cons rfl (.cons rfl (.cons rfl (.cons rfl .nil)))) ?_ ?_
 ·exact ⟨H0, ZO, rfl, hUr, ZO, ZO, ZO, ZO, fun _ _ => rfl, by simp [Ma.vb]⟩
 ·exact (.cons rfl ZN (.cons rfl ZN (.cons rfl ZN .nil)))
 rintro ⟨j, o, cy, bo⟩ w1 ⟨H1, hj, hol, hUo, hcy0, hcy1, hbo0, hbo1, hrest, hval⟩
 show RunC P _ _ _ (_ :: _) _
 refine Z03 (Z00 ?_)
 refine Zl ?_
 refine Z01 (Z02 (Z03 ?_))
 (first | refine Z0c rfl ?_ ?_ | refine Z08 rfl ?_ ?_) <;> intro hc0
 ·refine Z0a (Z02 ?_)
  refine Zk [0, 1, 2, 7, 8, 14, 15] ?_
  refine Z03 (Z0d (Z03 (Z00 (Zm (Zg (Z01 (Z02 ?_)))))))
  refine Zk [0, 1, 2, 7, 8, 9, 14, 15] ?_
  refine Z03 (Z00 (Zm (Zm ?_)))
  refine Z0T (j := j) rfl rfl rfl rfl underlying155 tz24 underlying24 rfl rfl (by first | exact H1.io mem0 | exact H1.ikM hd | assumption) ZA rfl ZO ZI (fun hb5_2 => ?_)
  refine Zm ?_
  refine Z13 rfl rfl func269 rfl rfl (.cons rfl (.cons rfl .nil)) (mul64 _ _ ZA hg _) ?_
  refine Zm ?_
  refine Zx (Zx (Zg (Zg (Z01 (Z02 ?_)))))
  refine Zk [0, 1, 2, 7, 8, 9, 10, 11, 14, 15] ?_
  refine Z03 (Z00 ?_)
  have e1 : dl.getD j 0 * g / 18446744073709551616 * 18446744073709551616 + dl.getD j 0 * g % 18446744073709551616 = dl.getD j 0 * g := by omega
  have hxy := Z23 (a := dl.getD j 0) (b := g) (x := 18446744073709551616) (y := 18446744073709551616) ZO ZO
  have hlo : 0 ≤ dl.getD j 0 * g % 18446744073709551616 ∧ dl.getD j 0 * g % 18446744073709551616 ≤ 18446744073709551616 - 1 := by omega
  have hhi : 0 ≤ dl.getD j 0 * g / 18446744073709551616 ∧ dl.getD j 0 * g / 18446744073709551616 ≤ 18446744073709551616 - 2 := by omega
  generalize dl.getD j 0 * g / 18446744073709551616 = hi' at *
  generalize dl.getD j 0 * g % 18446744073709551616 = lo at *
  refine Zm (Zm ?_)
  refine Z25 rfl rfl func266 rfl rfl rfl rfl (.cons rfl (.cons rfl (.cons rfl .nil))) (run_add64 _ _ _ hlo.1 hcy0 ZO ZO _) ?_
  refine Zm ?_
  refine Zx (Zx (Zg (Zg (Z01 (Z02 ?_)))))
  refine Zk [0, 1, 2, 8, 9, 10, 11, 12, 14, 15] ?_
  refine Z03 (Z00 ?_)
  have e2 : (lo + cy + 0) % 18446744073709551616 + (lo + cy + 0) / 18446744073709551616 * 18446744073709551616 = lo + cy := by omega
  have hs1 : 0 ≤ (lo + cy + 0) % 18446744073709551616 ∧ (lo + cy + 0) % 18446744073709551616 ≤ 18446744073709551615 := by omega
  have hcc1 : 0 ≤ (lo + cy + 0) / 18446744073709551616 ∧ (lo + cy + 0) / 18446744073709551616 ≤ 1 := by omega
  generalize (lo + cy + 0) % 18446744073709551616 = s1 at *
  generalize (lo + cy + 0) / 18446744073709551616 = c1 at *
  have hgo := Z1j hUo (i + j)
  have hbo := bor_01 (x := o.getD (i + j) 0) (y := s1 + bo)
  refine Zm (Zm ?_)
  refine Z0y rfl rfl rfl rfl (Z1p ZO) ?_
  refine Zg (Z01 (Z02 ?_))
  refine Zk [0, 1, 2, 7, 8, 9, 11, 14, 15] ?_
  refine Z00 (Zm (Zm (Zm (Zm ?_))))
  refine v_getw (j := j) (l := i) rfl rfl rfl rfl underlying155 tz24 underlying24 rfl rfl hvE (by first | exact H1.io mem0 | exact H1.ikM hd | assumption) ZI hcvE ZA rfl ZP ZO (fun hb8_4 => ?_)
  refine Zm (Zm ?_)
  refine Z25 rfl rfl func286 rfl rfl rfl rfl (.cons rfl (.cons rfl (.cons rfl .nil))) (Z5Q hgo hs1 ⟨hbo0, hbo1⟩ _) ?_
  refine Zm ?_
  refine Zx (Zx ?_)
  refine Z3E (j := j) (l := i) rfl rfl underlying155 tz24 rfl rfl hvE (by first | exact H1.io mem0 | exact H1.ikM hd | assumption) ZI ZP ZO ?_
  refine Z1U H1 .head hvE ZB rfl tz24 rfl rfl ZI (fun w2 H2 => ?_)
  refine Zg (Z01 ?_)
  refine Z0F ?_
  refine Z02 ?_
  refine Zk [0, 1, 2, 7, 8, 14, 15] ?_
  refine Z00 ?_
  refine Z0y rfl rfl rfl rfl (Z0l ZO) ?_
  refine Zm (Z01 ?_)
  refine Z0p (i := (j, o, cy, bo)) (j + 1, o.set (i + j) ((o.getD (i + j) 0 - s1 - bo) % 18446744073709551616), hi' + c1, if o.getD (i + j) 0 < s1 + bo then 1 else 0) ?_ ?_ (.cons rfl (.cons rfl (.cons rfl (.cons rfl .nil)))) ?_
  ·first | omega | (simp; omega)
  ·have h1 := Ma.vb_set_at 18446744073709551616 o (i + j) ((o.getD (i + j) 0 - s1 - bo) % 18446744073709551616) ZO
   have h2 := Ma.vb_take_succ 18446744073709551616 dl j
   have h3 := times_place (A := nv rl - 18446744073709551616 ^ i * (g * nv (dl.take j))) (p := 18446744073709551616 ^ (i + j)) hval e1 e2 (Z6s hgo hs1 ⟨hbo0, hbo1⟩)
   refine ⟨H2, ZO, by simpa using hol, hUo.set ZO _, ZO, ZO, hbo.1, hbo.2, fun k hk => by rw [Z17 _ ZO]; exact hrest k ZO, ?_⟩
   show Ma.vb _ _ = nv rl - _ * (_ * Ma.vb _ _) + _ + _
   rw [h1, h2, ← Nat.add_assoc, Int.pow_succ, h3, Int.mul_add, Int.mul_add, Int.mul_add]
   have e : 18446744073709551616 ^ (i + j) * (g * dl.getD j 0) = 18446744073709551616 ^ i * (g * (18446744073709551616 ^ j * dl.getD j 0)) := by rw [Int.pow_add, Int.mul_assoc, Int.mul_left_comm g]
   have e0 : nv (dl.take j) = Ma.vb 18446744073709551616 (dl.take j) := rfl
   rw [e, e0]
   omega
  exact (.cons rfl ZN (.cons rfl ZN (.cons rfl ZN .nil)))
 refine Z0H ?_
 refine Z06 ?_
 refine Z06 ?_
 refine Z0h ?_
 refine Z02 ?_
 refine Zk [0, 1, 7, 8] ?_
 refine Z03 (Z00 ?_)
 obtain rfl : j = dl.length := by omega
 have hgo := Z1j hUo (i + dl.length)
 have hbo := bor_01 (x := o.getD (i + dl.length) 0) (y := cy + bo)
 refine Zm (Zm ?_)
 refine Z0u rfl rfl underlying155 rfl (by first | exact H1.io mem0 | exact H1.ikM hd | assumption) ?_
 refine Zm (Zm ?_)
 refine Z0u rfl rfl underlying155 rfl (by first | exact H1.io mem0 | exact H1.ikM hd | assumption) ?_
 refine v_getw (j := dl.length) (l := i) rfl rfl rfl rfl underlying155 tz24 underlying24 rfl rfl hvE (by first | exact H1.io mem0 | exact H1.ikM hd | assumption) ZI hcvE ZA rfl ZP ZO (fun hb10_6 => ?_)
 refine Zm (Zm ?_)
 refine Z25 rfl rfl func286 rfl rfl rfl rfl (.cons rfl (.cons rfl (.cons rfl .nil))) (Z5Q hgo ⟨hcy0, hcy1⟩ ⟨hbo0, hbo1⟩ _) ?_
 refine Zm ?_
 refine Zx (Zx ?_)
 refine Z3E (j := dl.length) (l := i) rfl rfl underlying155 tz24 rfl rfl hvE (by first | exact H1.io mem0 | exact H1.ikM hd | assumption) ZI ZP ZO ?_
 refine Z1U H1 .head hvE ZB rfl tz24 rfl rfl ZI (fun w3 H3 => ?_)
 refine Zg (Z01 (Z02 ?_))
 refine Zk [8] ?_
 refine Z03 (Z00 (Zm (Zg (Z01 (Z02 ?_)))))
 refine Zk [6] ?_
 refine Z0i ?_
 refine Z0e results291 rfl ?_
 refine ⟨_, rfl, ?_⟩
 rw [List.take_length] at hval
 have h1 := Ma.vb_set_at 18446744073709551616 o (i + dl.length) ((o.getD (i + dl.length) 0 - cy - bo) % 18446744073709551616) ZO
 have h3 := times_last (A := nv rl - 18446744073709551616 ^ i * (g * nv dl)) (p := 18446744073709551616 ^ (i + dl.length)) hval (Z6s hgo ⟨hcy0, hcy1⟩ ⟨hbo0, hbo1⟩)
 refine ⟨_, _, rfl, hUo.set ZO _, by simpa using hol, hbo.1, hbo.2, fun k hk => by rw [Z17 _ ZO]; exact hrest k ZO, ?_, H3.turns (fun k hk => .inl hk)⟩
 show Ma.vb _ _ = _
 rw [h1, Int.pow_succ]
 exact h3
theorem moreN (va vd : Value) (ad : Addr) (rl dl : List Int) (n c c' i : Nat) (hvE : va = .slice (some ad) n c) (hnE : n = rl.length) (hcvE : dl.length + 1 ≤ c') (hUr : U rl) (hUd : U dl) (hLr : rl.length ≤ 1099511627776) (hi : i + dl.length + 1 ≤ rl.length) (w : World) (hok : (As.ri 24 .u64 va rl).ok w) (hlt : ∀ k, (As.ri 24 .u64 va rl).fp k → k < w.heap.size) (hd : ∀ w1 : World, (∀ k, k < w.heap.size → ¬ (As.ri 24 .u64 va rl).fp k → w1.heap[k]? = w.heap[k]?) → IV w1 vd (ints .u64 dl)) :
  Z0f P 292 [.slice ((some ad).map (·.add i)) (dl.length + 1) c', vd] w fun r w' => ∃ ro b, r = .int .u64 b ∧ U ro ∧ ro.length = rl.length ∧ 0 ≤ b ∧ b ≤ 1 ∧ (∀ k, i + dl.length + 1 ≤ k → ro.getD k 0 = rl.getD k 0) ∧ nv ro = nv rl + 18446744073709551616 ^ i * nv dl - 18446744073709551616 ^ (i + dl.length + 1) * b ∧ Turn w w' (As.ri 24 .u64 va rl) (As.ri 24 .u64 va ro) := by
 refine Z0o func292 rfl ntmps292 rfl ?_
 have H0 := St.startM w hok hlt
 refine Z03 (Z00 (Zg (Z01 (Z02 ?_))))
 refine Zk [0, 1] ?_
 refine Z03 (Z00 (Zg (Z01 (Z02 (Z03 (Z03 (Z00 (Zm ?_))))))))
 refine l_len rfl rfl underlying155 rfl ?_
 refine Zm (Z01 (Z02 ?_))
 refine Zk [0, 1, 5, 8, 9] ?_
 refine Z0d ?_
 refine Z0z (ι := Nat × List Int × Int) (fun (z0 : Nat × List Int × Int) => match z0 with | ⟨j, o, cy⟩ => dl.length + 1 - j) (fun (z0 : Nat × List Int × Int) (w' : World) => match z0 with | ⟨j, o, cy⟩ => St w w.heap.size (As.ri 24 .u64 va rl).fp ([As.ri 24 .u64 va o]) w' ∧ j ≤ dl.length + 1 ∧ o.length = rl.length ∧ U o ∧ 0 ≤ cy ∧ cy ≤ 1 ∧ (∀ k, i + j ≤ k → o.getD k 0 = rl.getD k 0) ∧ nv o = nv rl + 18446744073709551616 ^ i * nv (dl.take j) - 18446744073709551616 ^ (i + j) * cy) (fun (z0 : Nat × List Int × Int) => match z0 with | ⟨j, o, cy⟩ => [(5, .int .u64 cy), (9, .int .i64 (j : Int))]) [0, 1, 8] (0, rl, 0) ?_ (.cons rfl (.cons rfl (.cons rfl .nil))) ?_ ?_
 ·exact ⟨H0, ZO, rfl, hUr, ZO, ZO, fun _ _ => rfl, by simp [Ma.vb]⟩
 ·exact (.cons rfl ZN (.cons rfl ZN .nil))
 rintro ⟨j, o, cy⟩ w1 ⟨H1, hj, hol, hUo, hcy0, hcy1, hrest, hval⟩
 show RunC P _ _ _ (_ :: _) _
 refine Z03 (Z00 ?_)
 refine Zl ?_
 refine Z01 (Z02 (Z03 ?_))
 (first | refine Z0c rfl ?_ ?_ | refine Z08 rfl ?_ ?_) <;> intro hc0
 ·refine Z0a (Z02 ?_)
  refine Zk [0, 1, 5, 8, 9] ?_
  refine Z03 (Z0d (Z03 (Z00 (Zm (Zg (Z01 (Z02 ?_)))))))
  refine Zk [0, 1, 5, 6, 8, 9] ?_
  have H2 := H1.drewn
  have hgo := Z1j hUo (i + j)
  have hgd := Z1j hUd j
  refine Z1a (n := 17) [Zz,Zz,Zz,Zz,Zz,Zz,Zz,Zz,Zz,Zz,Zz,Zz,Zz,Zz,Zz,Zz,Zz] (fun wS => True) ZK rfl rfl ?_
  apply Zu (L' := [Zy,Zz,Zz,Zz,Zz,Zz,Zz,Zz,Zz,Zz,Zz,Zz,Zz,Zz,Zz,Zz,Zz]) 0 (trivial)
  ·intro wS sS
   refine Zm (Z01 ?_)
   exact Z04 rfl
  apply Zu (L' := [Zy,Zy,Zz,Zz,Zz,Zz,Zz,Zz,Zz,Zz,Zz,Zz,Zz,Zz,Zz,Zz,Zz]) 1 (trivial)
  ·intro wS sS
   refine Zm (Z01 ?_)
   exact Z04 rfl
  apply Zu (L' := [Zy,Zy,Zy,Zz,Zz,Zz,Zz,Zz,Zz,Zz,Zz,Zz,Zz,Zz,Zz,Zz,Zz]) 2 (trivial)
  ·intro wS sS
   refine Zm (Z01 ?_)
   exact Z04 rfl
  apply Zu (L' := [Zy,Zy,Zy,Zy,Zz,Zz,Zz,Zz,Zz,Zz,Zz,Zz,Zz,Zz,Zz,Zz,Zz]) 3 (trivial)
  ·intro wS sS
   refine Zm (Z01 ?_)
   exact Z04 rfl
  apply Zu (L' := [Zy,Zy,Zy,Zy,Zy,Zz,Zz,Zz,Zz,Zz,Zz,Zz,Zz,Zz,Zz,Zz,Zz]) 4 (trivial)
  ·intro wS sS
   refine Z4U (j := j) (l := i) rfl rfl underlying155 tz24 rfl rfl ZP ZI ?_
   refine Z01 ?_
   exact Z04 rfl
  apply Zu (L' := [Zy,Zy,Zy,Zy,Zy,Zz,Zy,Zz,Zz,Zz,Zz,Zz,Zz,Zz,Zz,Zz,Zz]) 6 (trivial)
  ·intro wS sS
   refine Zm (Z01 ?_)
   exact Z04 rfl
  apply Zu (L' := [Zy,Zy,Zy,Zy,Zy,Zz,Zy,Zy,Zz,Zz,Zz,Zz,Zz,Zz,Zz,Zz,Zz]) 7 (trivial)
  ·intro wS sS
   refine Zm (Z01 ?_)
   exact Z04 rfl
  apply Zu (L' := [Zy,Zy,Zy,Zy,Zy,Zz,Zy,Zy,Zz,Zy,Zz,Zz,Zz,Zz,Zz,Zz,Zz]) 9 (trivial)
  ·intro wS sS
   refine Zm (Z01 ?_)
   exact Z04 rfl
  refine Z2B (L' := [Zy,Zy,Zy,Zy,Zy,Zy,Zy,Zy,Zz,Zy,Zz,Zz,Zz,Zz,Zz,Zz,Zz]) (L'' := [Zy,Zy,Zy,Zy,Zy,Zz,Zy,Zy,Zy,Zy,Zz,Zz,Zz,Zz,Zz,Zz,Zz]) 5 8 ZK rfl rfl rfl rfl ?_ ?_
  ·refine Z1u rfl rfl underlying24 rfl hvE (by first | exact H2.io mem0 | exact H2.ikM hd | assumption) ZA ZI (fun hb5_5 => ?_)
   refine Z01 ?_
   refine Z0n (trivial) ?_
   refine Z0v (L' := [Zy,Zy,Zy,Zy,Zy,Zy,Zy,Zy,Zy,Zy,Zz,Zz,Zz,Zz,Zz,Zz,Zz]) 8 ZK rfl rfl ?_
   refine Zp func267 (atN vd dl hUd j w1.drew (H2.ikM hd)) ?_
   refine Z01 ?_
   refine Z0n (trivial) ?_
   refine Z0v (L' := [Zy,Zy,Zy,Zy,Zy,Zy,Zy,Zy,Zy,Zy,Zy,Zz,Zz,Zz,Zz,Zz,Zz]) 10 ZK rfl rfl ?_
   refine Z25 rfl rfl func266 rfl rfl rfl rfl (.cons rfl (.cons rfl (.cons rfl .nil))) (run_add64 _ _ _ hgo.1 hgd.1 hcy0 hcy1 _) ?_
   refine Z01 ?_
   refine Z0n (trivial) ?_
   apply Zu (L' := [Zy,Zy,Zy,Zy,Zy,Zy,Zy,Zy,Zy,Zy,Zy,Zy,Zz,Zz,Zz,Zz,Zz]) 11 (trivial)
   ·intro wS sS
    refine Zm (Z01 ?_)
    exact Z04 rfl
   apply Zu (L' := [Zy,Zy,Zy,Zy,Zy,Zy,Zy,Zy,Zy,Zy,Zy,Zy,Zy,Zz,Zz,Zz,Zz]) 12 (trivial)
   ·intro wS sS
    refine Zx (Z01 ?_)
    exact Z04 rfl
   apply Zu (L' := [Zy,Zy,Zy,Zy,Zy,Zy,Zy,Zy,Zy,Zy,Zy,Zy,Zy,Zy,Zz,Zz,Zz]) 13 (trivial)
   ·intro wS sS
    refine Zx (Z01 ?_)
    exact Z04 rfl
   apply Zu (L' := [Zy,Zy,Zy,Zy,Zy,Zy,Zy,Zy,Zy,Zy,Zy,Zy,Zy,Zy,Zy,Zz,Zz]) 14 (trivial)
   ·intro wS sS
    refine Z4U (j := j) (l := i) rfl rfl underlying155 tz24 rfl rfl ZP ZI ?_
    refine Z01 ?_
    exact Z04 rfl
   refine Z0v (L' := [Zy,Zy,Zy,Zy,Zy,Zy,Zy,Zy,Zy,Zy,Zy,Zy,Zy,Zy,Zy,Zy,Zz]) 15 ZK rfl rfl ?_
   refine Z1U H2 .head hvE ZB rfl tz24 rfl rfl ZI (fun w3 H3 => ?_)
   refine Z01 ?_
   refine Z0n (trivial) ?_
   apply Zu (L' := [Zy,Zy,Zy,Zy,Zy,Zy,Zy,Zy,Zy,Zy,Zy,Zy,Zy,Zy,Zy,Zy,Zy]) 16 (trivial)
   ·intro wS sS
    refine Zg (Z01 ?_)
    exact Z04 rfl
   refine Z0B ZK ?_
   refine Z0F ?_
   refine Z02 ?_
   refine Zk [0, 1, 5, 8, 9] ?_
   refine Z00 ?_
   refine Z0y rfl rfl rfl rfl (Z0l ZO) ?_
   refine Zm (Z01 ?_)
   refine Z0p (i := (j, o, cy)) (j + 1, o.set (i + j) ((o.getD (i + j) 0 + dl.getD j 0 + cy) % 18446744073709551616), (o.getD (i + j) 0 + dl.getD j 0 + cy) / 18446744073709551616) ?_ ?_ (.cons rfl (.cons rfl (.cons rfl .nil))) ?_
   ·first | omega | (simp; omega)
   ·have h1 := Ma.vb_set_at 18446744073709551616 o (i + j) ((o.getD (i + j) 0 + dl.getD j 0 + cy) % 18446744073709551616) ZO
    have h2 := Ma.vb_take_succ 18446744073709551616 dl j
    have h3 := more_place (A := nv rl + 18446744073709551616 ^ i * nv (dl.take j)) (p := 18446744073709551616 ^ (i + j)) (x := o.getD (i + j) 0) (y := dl.getD j 0) (c := cy) hval
    refine ⟨H3, ZO, by simpa using hol, hUo.set ZO _, ZO, ZO, fun k hk => by rw [Z17 _ ZO]; exact hrest k ZO, ?_⟩
    show Ma.vb _ _ = nv rl + _ * Ma.vb _ _ - _
    rw [h1, h2, ← Nat.add_assoc, Int.pow_succ, h3, Int.mul_add]
    have e : 18446744073709551616 ^ (i + j) * dl.getD j 0 = 18446744073709551616 ^ i * (18446744073709551616 ^ j * dl.getD j 0) := by rw [Int.pow_add, Int.mul_assoc]
    have e0 : nv (dl.take j) = Ma.vb 18446744073709551616 (dl.take j) := rfl
    rw [e, e0]
    omega
   exact (.cons rfl ZN (.cons rfl ZN .nil))
  refine Zp func267 (atN vd dl hUd j w1.drew (H2.ikM hd)) ?_
  refine Z01 ?_
  refine Z0n (trivial) ?_
  refine Z0v (L' := [Zy,Zy,Zy,Zy,Zy,Zy,Zy,Zy,Zy,Zy,Zz,Zz,Zz,Zz,Zz,Zz,Zz]) 5 ZK rfl rfl ?_
  refine Z1u rfl rfl underlying24 rfl hvE (by first | exact H2.io mem0 | exact H2.ikM hd | assumption) ZA ZI (fun hb5_5 => ?_)
  refine Z01 ?_
  refine Z0n (trivial) ?_
  refine Z0v (L' := [Zy,Zy,Zy,Zy,Zy,Zy,Zy,Zy,Zy,Zy,Zy,Zz,Zz,Zz,Zz,Zz,Zz]) 10 ZK rfl rfl ?_
  refine Z25 rfl rfl func266 rfl rfl rfl rfl (.cons rfl (.cons rfl (.cons rfl .nil))) (run_add64 _ _ _ hgo.1 hgd.1 hcy0 hcy1 _) ?_
  refine Z01 ?_
  refine Z0n (trivial) ?_
  apply Zu (L' := [Zy,Zy,Zy,Zy,Zy,Zy,Zy,Zy,Zy,Zy,Zy,Zy,Zz,Zz,Zz,Zz,Zz]) 11 (trivial)
  ·intro wS sS
   refine Zm (Z01 ?_)
   exact Z04 rfl
  apply Zu (L' := [Zy,Zy,Zy,Zy,Zy,Zy,Zy,Zy,Zy,Zy,Zy,Zy,Zy,Zz,Zz,Zz,Zz]) 12 (trivial)
  ·intro wS sS
   refine Zx (Z01 ?_)
   exact Z04 rfl
  apply Zu (L' := [Zy,Zy,Zy,Zy,Zy,Zy,Zy,Zy,Zy,Zy,Zy,Zy,Zy,Zy,Zz,Zz,Zz]) 13 (trivial)
  ·intro wS sS
   refine Zx (Z01 ?_)
   exact Z04 rfl
  apply Zu (L' := [Zy,Zy,Zy,Zy,Zy,Zy,Zy,Zy,Zy,Zy,Zy,Zy,Zy,Zy,Zy,Zz,Zz]) 14 (trivial)
  ·intro wS sS
   refine Z4U (j := j) (l := i) rfl rfl underlying155 tz24 rfl rfl ZP ZI ?_
   refine Z01 ?_
   exact Z04 rfl
  refine Z0v (L' := [Zy,Zy,Zy,Zy,Zy,Zy,Zy,Zy,Zy,Zy,Zy,Zy,Zy,Zy,Zy,Zy,Zz]) 15 ZK rfl rfl ?_
  refine Z1U H2 .head hvE ZB rfl tz24 rfl rfl ZI (fun w4 H4 => ?_)
  refine Z01 ?_
  refine Z0n (trivial) ?_
  apply Zu (L' := [Zy,Zy,Zy,Zy,Zy,Zy,Zy,Zy,Zy,Zy,Zy,Zy,Zy,Zy,Zy,Zy,Zy]) 16 (trivial)
  ·intro wS sS
   refine Zg (Z01 ?_)
   exact Z04 rfl
  refine Z0B ZK ?_
  refine Z0F ?_
  refine Z02 ?_
  refine Zk [0, 1, 5, 8, 9] ?_
  refine Z00 ?_
  refine Z0y rfl rfl rfl rfl (Z0l ZO) ?_
  refine Zm (Z01 ?_)
  refine Z0p (i := (j, o, cy)) (j + 1, o.set (i + j) ((o.getD (i + j) 0 + dl.getD j 0 + cy) % 18446744073709551616), (o.getD (i + j) 0 + dl.getD j 0 + cy) / 18446744073709551616) ?_ ?_ (.cons rfl (.cons rfl (.cons rfl .nil))) ?_
  ·first | omega | (simp; omega)
  ·have h1 := Ma.vb_set_at 18446744073709551616 o (i + j) ((o.getD (i + j) 0 + dl.getD j 0 + cy) % 18446744073709551616) ZO
   have h2 := Ma.vb_take_succ 18446744073709551616 dl j
   have h3 := more_place (A := nv rl + 18446744073709551616 ^ i * nv (dl.take j)) (p := 18446744073709551616 ^ (i + j)) (x := o.getD (i + j) 0) (y := dl.getD j 0) (c := cy) hval
   refine ⟨H4, ZO, by simpa using hol, hUo.set ZO _, ZO, ZO, fun k hk => by rw [Z17 _ ZO]; exact hrest k ZO, ?_⟩
   show Ma.vb _ _ = nv rl + _ * Ma.vb _ _ - _
   rw [h1, h2, ← Nat.add_assoc, Int.pow_succ, h3, Int.mul_add]
   have e : 18446744073709551616 ^ (i + j) * dl.getD j 0 = 18446744073709551616 ^ i * (18446744073709551616 ^ j * dl.getD j 0) := by rw [Int.pow_add, Int.mul_assoc]
   have e0 : nv (dl.take j) = Ma.vb 18446744073709551616 (dl.take j) := rfl
   rw [e, e0]
   omega
  exact (.cons rfl ZN (.cons rfl ZN .nil))
 refine Z0H ?_
 refine Z06 ?_
 refine Z06 ?_
 refine Z0h ?_
 refine Z02 ?_
 refine Zk [5] ?_
 refine Z03 (Z00 (Zm (Zg (Z01 (Z02 ?_)))))
 refine Zk [4] ?_
 refine Z0i ?_
 refine Z0e results292 rfl ?_
 refine ⟨_, rfl, ?_⟩
 obtain rfl : j = dl.length + 1 := by omega
 rw [List.take_of_length_le ZO] at hval
 exact ⟨_, _, rfl, hUo, hol, hcy0, hcy1, hrest, hval, H1.turns (fun k hk => .inl hk)⟩
theorem win_is {w : World} {v : Value} {A : Option Addr} {n c c' l m : Nat} {k : IntKind} {ls : List Int} (hv : v = .slice A n c) (h : IS w k v ls) (hm : l + m ≤ ls.length) (hc : m ≤ c') : IS w k (.slice (A.map (·.add l)) m c') ((ls.drop l).take m) := by
 have h1 := win_iv (c' := c') hv h (l := l) (m := m) (by simpa using hm) hc
 have e1 : ((ints k ls).drop l).take m = ints k ((ls.drop l).take m) := by rw [← List.map_drop, ← List.map_take]
 rwa [e1] at h1
theorem Z3X (b : Int) {k : Nat} (h : 0 < k) : b ^ k = b ^ (k - 1) * b := by
 obtain ⟨m, rfl⟩ : ∃ m, k = m + 1 := ⟨k - 1, by omega⟩
 exact Int.pow_succ b m
theorem nv_take_le {l : List Int} (hU : U l) (k : Nat) : nv (l.take k) ≤ nv l := by
 have e := Ma.vb_append 18446744073709551616 (l.take k) (l.drop k)
 rw [List.take_append_drop] at e
 have h1 := Ma.vb_nonneg (show (0 : Int) < 18446744073709551616 by omega) (hU.dg.drop k)
 have h2 := Int.mul_nonneg (Int.le_of_lt (Ma.pow_pos (show (0 : Int) < 18446744073709551616 by omega) (l.take k).length)) h1
 show Ma.vb _ _ ≤ Ma.vb _ _
 omega
theorem high_zero {l : List Int} (hU : U l) {m : Nat} (h : nv l < 18446744073709551616 ^ m) (j : Nat) (hj : m ≤ j) : l.getD j 0 = 0 := by
 have h0 := Z1j hU j
 rcases Int.lt_or_eq_of_le h0.1 with h1 | h1
 ·exfalso
  have h2 := nv_take_le hU (j + 1)
  have h3 := Ma.vb_take_succ 18446744073709551616 l j
  have h4 := Ma.vb_nonneg (show (0 : Int) < 18446744073709551616 by omega) (hU.dg.take j)
  have h5 : (18446744073709551616 : Int) ^ j * 1 ≤ 18446744073709551616 ^ j * l.getD j 0 := Int.mul_le_mul_of_nonneg_left ZO (Int.le_of_lt (Ma.pow_pos ZO j))
  have h6 := Ma.pow_mono (show (1 : Int) ≤ 18446744073709551616 by omega) hj
  have h7 : nv (l.take (j + 1)) = nv (l.take j) + 18446744073709551616 ^ j * l.getD j 0 := h3
  have h8 : 0 ≤ nv (l.take j) := h4
  omega
 exact h1.symm
theorem nv_zero : ∀ {l : List Int}, (∀ j, l.getD j 0 = 0) → nv l = 0
 | [], _ => rfl
 | x :: l, h => by
  have h0 : x = 0 := by simpa using h 0
  have h1 : nv l = 0 := nv_zero fun j => by simpa using h (j + 1)
  show x + 18446744073709551616 * nv l = 0
  omega
theorem low_lt {l : List Int} (hU : U l) {m : Nat} (h : ∀ j, m ≤ j → l.getD j 0 = 0) : nv l < 18446744073709551616 ^ m := by
 have e := Ma.vb_append 18446744073709551616 (l.take m) (l.drop m)
 rw [List.take_append_drop] at e
 have hz : Ma.vb 18446744073709551616 (l.drop m) = 0 := nv_zero fun j => by
  have := h (m + j) ZO
  simpa [List.getD, List.getElem?_drop] using this
 rw [hz, Int.mul_zero, Int.add_zero] at e
 have h1 := Ma.vb_lt (show (0 : Int) < 18446744073709551616 by omega) (hU.dg.take m)
 have h2 := Ma.pow_mono (show (1 : Int) ≤ 18446744073709551616 by omega) (show (l.take m).length ≤ m from by rw [List.length_take]; omega)
 show Ma.vb _ _ < _
 omega
theorem win_val {l : List Int} (hU : U l) {i m : Nat} (hi : i + m ≤ l.length) (h : nv l < 18446744073709551616 ^ (i + m)) : ∃ lo, 0 ≤ lo ∧ lo < 18446744073709551616 ^ i ∧ nv l = lo + 18446744073709551616 ^ i * nv ((l.drop i).take m) := by
 have e := Ma.vb_append 18446744073709551616 (l.take i) (l.drop i)
 have e2 := Ma.vb_append 18446744073709551616 ((l.drop i).take m) ((l.drop i).drop m)
 rw [List.take_append_drop] at e e2
 have hz : Ma.vb 18446744073709551616 ((l.drop i).drop m) = 0 := nv_zero fun j => by
  have := high_zero hU h (i + m + j) ZO
  simpa [List.getD, List.getElem?_drop, Nat.add_assoc] using this
 rw [hz, Int.mul_zero, Int.add_zero] at e2
 have h1 := Ma.vb_lt (show (0 : Int) < 18446744073709551616 by omega) (hU.dg.take i)
 have h2 := Ma.vb_nonneg (show (0 : Int) < 18446744073709551616 by omega) (hU.dg.take i)
 rw [List.length_take, Nat.min_eq_left ZO] at h1 e
 refine ⟨_, h2, h1, ?_⟩
 rw [e2] at e
 exact e
theorem digit_hi {R lo w P D k : Int} (hw : 0 < w) (hR : R = lo + w * P) (hl : 0 ≤ lo) (h : R < D * (w * k)) : P < k * D := by
 have h1 : w * P < w * (k * D) := by
  have : D * (w * k) = w * (k * D) := by rw [Int.mul_left_comm, Int.mul_comm D]
  omega
 exact Int.lt_of_mul_lt_mul_left h1 (Int.le_of_lt hw)
theorem digit_owed {R lo w P D g V X : Int} (hw : 0 < w) (hD : 0 < D) (hR : R = lo + w * P) (hl : 0 ≤ lo) (hV : V = R - w * (g * D) + X) (hX : V < X) (hP : 0 ≤ P) : P / D < g := by
 have h1 : w * P < w * (g * D) := by omega
 have h2 := Int.lt_of_mul_lt_mul_left h1 (Int.le_of_lt hw)
 exact Int.ediv_lt_of_lt_mul hD h2
theorem digit_end {R lo w P D g V : Int} (hw : 0 < w) (hD : 0 < D) (hR : R = lo + w * P) (hl : lo < w) (hV : V = R - w * (g * D)) (hg : P / D ≤ g) : V < D * w := by
 have h1 : P < (g + 1) * D := by
  have e := Int.emod_add_mul_ediv P D
  have e1 := Int.emod_lt_of_pos P hD
  have e2 : D * (P / D) ≤ D * g := Int.mul_le_mul_of_nonneg_left hg (Int.le_of_lt hD)
  rw [Int.add_mul, Int.one_mul, Int.mul_comm g]
  omega
 have h2 : w * (P + 1) ≤ w * ((g + 1) * D) := Int.mul_le_mul_of_nonneg_left ZO (Int.le_of_lt hw)
 rw [Int.mul_add, Int.mul_one, Int.add_mul, Int.one_mul, Int.mul_add, Int.mul_comm w D] at h2
 omega
theorem divideN (a b : Value) (la lb : List Int) (hUa : U la) (hUb : U lb) (hLa : la.length ≤ 1073741824) (hLb : lb.length ≤ 1073741824) (hn0 : 0 < lb.length) (htop : 0 < lb.getD (lb.length - 1) 0) (hge : nv lb ≤ nv la) (w : World) (ha : IV w a (ints .u64 la)) (hb : IV w b (ints .u64 lb)) :
  Z0f P 276 [a, b] w fun r w' => ∃ vq vr lq lr, r = .tuple #[vq, vr] ∧ U lq ∧ U lr ∧ lq.length ≤ la.length + 1 ∧ lr.length ≤ la.length + 2 ∧ nv lq = nv la / nv lb ∧ nv lr = nv la % nv lb ∧ Grow w w' [As.ri 24 .u64 vq lq, As.ri 24 .u64 vr lr] := by
 refine Z0o func276 rfl ntmps276 rfl ?_
 have H0 := St.start w
 have hbt : nv lb = _ := (Z4e hUb (lb.length - 1) ZO).choose_spec.2.2
 obtain ⟨sb, sb0, sb1, sbe⟩ := Z4e hUb (lb.length - 1) ZO
 have hpb := Ma.pow_pos (show (0 : Int) < 18446744073709551616 by omega) (lb.length - 1)
 have hbpos : 0 < nv lb := by
  have := Int.mul_pos hpb htop
  omega
 clear hbt
 have hll : lb.length ≤ la.length := by
  rcases Nat.lt_or_ge la.length lb.length with h | h
  ·exfalso
   have h1 : nv la < 18446744073709551616 ^ la.length := Ma.vb_lt (show (0 : Int) < 18446744073709551616 by omega) hUa.dg
   have h2 := Ma.pow_mono (show (1 : Int) ≤ 18446744073709551616 by omega) (show la.length ≤ lb.length - 1 by omega)
   have h3 : (18446744073709551616 : Int) ^ (lb.length - 1) * 1 ≤ 18446744073709551616 ^ (lb.length - 1) * lb.getD (lb.length - 1) 0 := Int.mul_le_mul_of_nonneg_left ZO (Int.le_of_lt hpb)
   omega
  exact h
 refine Z03 (Z00 (Zg (Zg (Z01 (Z02 ?_)))))
 refine Zk [0, 1] ?_
 refine Z03 (Z03 (Z00 (Zm ?_)))
 refine Z0u rfl rfl underlying155 rfl (by first | exact H0.iarg ha | exact H0.iarg hb | assumption) ?_
 refine Ze ?_
 refine Z01 (Z02 ?_)
 refine Zk [0, 1, 16] ?_
 (first | refine Z0c rfl ?_ ?_ | refine Z08 rfl ?_ ?_) <;> intro hc0
 ·have hlb1 : lb.length = 1 := by omega
  have hb0 : nv lb = lb.getD 0 0 := by
   have h := sbe
   rw [hlb1] at h sb1
   simp only [Nat.sub_self, Int.pow_zero, Int.one_mul] at h sb1
   omega
  have hgb0 := Z1j hUb 0
  refine Z03 (Z00 (Zm ?_))
  refine Z0u rfl rfl underlying155 rfl (by first | exact H0.iarg ha | exact H0.iarg hb | assumption) ?_
  refine Z1A (m := la.length) (c := la.length) H0 rfl rfl underlying155 ti24 rfl rfl rfl ZO ZO ZO ZO ZO (fun v2_2 w1 H1 => ?_)
  refine Zg (Z01 (Z02 ?_))
  refine Zk [0, 1, 4] ?_
  refine Z03 (Z00 ?_)
  have hwq := H1.cast (show [As.ro 24 v2_2 (List.replicate la.length (Value.int IntKind.u64 0))] = [As.ri 24 .u64 v2_2 (List.replicate la.length 0)] from by rw [Z14])
  refine Zg (Z01 (Z02 (Z03 (Z03 (Z00 (Zm ?_))))))
  refine Z0u rfl rfl underlying155 rfl (by first | exact H1.io mem0 | exact H1.iarg ha | exact H1.iarg hb | assumption) ?_
  refine Z0W rfl rfl rfl rfl (Z0l ZO) ?_
  refine Zg (Z01 (Z02 ?_))
  refine Zk [0, 1, 4, 6, 7] ?_
  refine Z0d ?_
  refine Z0z (ι := Nat × List Int × Int) (fun (z0 : Nat × List Int × Int) => match z0 with | ⟨k, o, q⟩ => k) (fun (z0 : Nat × List Int × Int) (w' : World) => match z0 with | ⟨k, o, q⟩ => St w w.heap.size Z0J ([As.ri 24 .u64 v2_2 o]) w' ∧ k ≤ la.length ∧ o.length = la.length ∧ U o ∧ 0 ≤ q ∧ q < lb.getD 0 0 ∧ nv (o.drop k) * lb.getD 0 0 + q = nv (la.drop k)) (fun (z0 : Nat × List Int × Int) => match z0 with | ⟨k, o, q⟩ => [(6, .int .u64 q), (7, .int .i64 ((k : Int) - 1))]) [0, 1, 4] (la.length, List.replicate la.length 0, 0) ?_ (.cons rfl (.cons rfl (.cons rfl .nil))) ?_ ?_
  ·exact ⟨hwq, Nat.le_refl _, by simp, U.zeros _, ZO, ZO, by rw [List.drop_eq_nil_of_le (by simp), List.drop_length]; simp [Ma.vb]⟩
  ·exact (.cons rfl ZN (.cons rfl ZN .nil))
  rintro ⟨k, o, q⟩ w2 ⟨H2, hk, hol, hUo, hq0, hq1, hval⟩
  show RunC P _ _ _ (_ :: _) _
  refine Z03 (Z03 (Z00 (Zm ?_)))
  refine Zh ?_
  refine Z01 (Z02 ?_)
  refine Zk [0, 1, 4, 6, 7, 24] ?_
  (first | refine Z0c rfl ?_ ?_ | refine Z08 rfl ?_ ?_) <;> intro hc1
  ·refine Z0a (Z02 ?_)
   refine Zk [0, 1, 4, 6, 7] ?_
   refine Z03 (Z0d ?_)
   have H3 := H2.drewn
   obtain ⟨Aa7, ca7, hva7⟩ := ha.lies (by simp; omega)
   obtain ⟨Ab7, cb7, hvb7⟩ := hb.lies (by simp; omega)
   obtain ⟨Aq7, cq7, hvq7⟩ := (H3.io mem0).lies (by simp; omega)
   have hga7 := Z1j hUa (k - 1)
   refine Z1a (n := 17) [Zz,Zz,Zz,Zz,Zz,Zz,Zz,Zz,Zz,Zz,Zz,Zz,Zz,Zz,Zz,Zz,Zz] (fun wS => IS wS .u64 a la ∧ IS wS .u64 b lb) ZK rfl rfl ?_
   apply Zu (L' := [Zy,Zz,Zz,Zz,Zz,Zz,Zz,Zz,Zz,Zz,Zz,Zz,Zz,Zz,Zz,Zz,Zz]) 0 (⟨H3.iarg ha, H3.iarg hb⟩)
   ·intro wS sS
    refine Zm (Z01 ?_)
    exact Z04 rfl
   apply Zu (L' := [Zy,Zy,Zz,Zz,Zz,Zz,Zz,Zz,Zz,Zz,Zz,Zz,Zz,Zz,Zz,Zz,Zz]) 1 (⟨H3.iarg ha, H3.iarg hb⟩)
   ·intro wS sS
    refine Zm (Z01 ?_)
    exact Z04 rfl
   apply Zu (L' := [Zy,Zy,Zy,Zz,Zz,Zz,Zz,Zz,Zz,Zz,Zz,Zz,Zz,Zz,Zz,Zz,Zz]) 2 (⟨H3.iarg ha, H3.iarg hb⟩)
   ·intro wS sS
    refine Zm (Z01 ?_)
    exact Z04 rfl
   apply Zu (L' := [Zy,Zy,Zy,Zy,Zz,Zz,Zz,Zz,Zz,Zz,Zz,Zz,Zz,Zz,Zz,Zz,Zz]) 3 (⟨H3.iarg ha, H3.iarg hb⟩)
   ·intro wS sS
    refine Zm (Z01 ?_)
    exact Z04 rfl
   apply Zu (L' := [Zy,Zy,Zy,Zy,Zy,Zz,Zz,Zz,Zz,Zz,Zz,Zz,Zz,Zz,Zz,Zz,Zz]) 4 (⟨H3.iarg ha, H3.iarg hb⟩)
   ·intro wS sS
    refine Zm (Z01 ?_)
    exact Z04 rfl
   apply Zu (L' := [Zy,Zy,Zy,Zy,Zy,Zy,Zz,Zz,Zz,Zz,Zz,Zz,Zz,Zz,Zz,Zz,Zz]) 5 (⟨H3.iarg ha, H3.iarg hb⟩)
   ·intro wS sS
    refine Z1c (j := k - 1) rfl rfl underlying155 tz24 rfl rfl hva7 ZP ZI ?_
    refine Z01 ?_
    exact Z04 rfl
   apply Zu (L' := [Zy,Zy,Zy,Zy,Zy,Zy,Zy,Zz,Zz,Zz,Zz,Zz,Zz,Zz,Zz,Zz,Zz]) 6 (⟨H3.iarg ha, H3.iarg hb⟩)
   ·intro wS sS
    refine Z1u rfl rfl underlying24 rfl hva7 (by first | exact sS.1 | exact sS.2 | exact H3.io mem0 | exact H3.iarg ha | exact H3.iarg hb | assumption) ZA ZI (fun hb7_6 => ?_)
    refine Z01 ?_
    exact Z04 rfl
   apply Zu (L' := [Zy,Zy,Zy,Zy,Zy,Zy,Zy,Zy,Zz,Zz,Zz,Zz,Zz,Zz,Zz,Zz,Zz]) 7 (⟨H3.iarg ha, H3.iarg hb⟩)
   ·intro wS sS
    refine Zm (Z01 ?_)
    exact Z04 rfl
   apply Zu (L' := [Zy,Zy,Zy,Zy,Zy,Zy,Zy,Zy,Zy,Zz,Zz,Zz,Zz,Zz,Zz,Zz,Zz]) 8 (⟨H3.iarg ha, H3.iarg hb⟩)
   ·intro wS sS
    refine Z1c (j := 0) rfl rfl underlying155 tz24 rfl rfl hvb7 ZP ZI ?_
    refine Z01 ?_
    exact Z04 rfl
   apply Zu (L' := [Zy,Zy,Zy,Zy,Zy,Zy,Zy,Zy,Zy,Zy,Zz,Zz,Zz,Zz,Zz,Zz,Zz]) 9 (⟨H3.iarg ha, H3.iarg hb⟩)
   ·intro wS sS
    refine Z1u rfl rfl underlying24 rfl hvb7 (by first | exact sS.1 | exact sS.2 | exact H3.io mem0 | exact H3.iarg ha | exact H3.iarg hb | assumption) ZA ZI (fun hb7_9 => ?_)
    refine Z01 ?_
    exact Z04 rfl
   refine Z0v (L' := [Zy,Zy,Zy,Zy,Zy,Zy,Zy,Zy,Zy,Zy,Zy,Zz,Zz,Zz,Zz,Zz,Zz]) 10 ZK rfl rfl ?_
   refine Z0I rfl rfl func272 rfl rfl (.cons rfl (.cons rfl (.cons rfl .nil))) (div64 _ _ _ ⟨hq0, ZO⟩ hga7 hgb0.2 w2.drew) ?_
   rintro _ w4 ⟨rfl, hG⟩
   have H4 := hG _ _ _ _ H3
   simp only [Zca, Zna] at H4
   refine Z01 ?_
   refine Z0n (⟨H4.iarg ha, H4.iarg hb⟩) ?_
   apply Zu (L' := [Zy,Zy,Zy,Zy,Zy,Zy,Zy,Zy,Zy,Zy,Zy,Zy,Zz,Zz,Zz,Zz,Zz]) 11 (⟨H4.iarg ha, H4.iarg hb⟩)
   ·intro wS sS
    refine Zm (Z01 ?_)
    exact Z04 rfl
   apply Zu (L' := [Zy,Zy,Zy,Zy,Zy,Zy,Zy,Zy,Zy,Zy,Zy,Zy,Zy,Zz,Zz,Zz,Zz]) 12 (⟨H4.iarg ha, H4.iarg hb⟩)
   ·intro wS sS
    refine Zx (Z01 ?_)
    exact Z04 rfl
   apply Zu (L' := [Zy,Zy,Zy,Zy,Zy,Zy,Zy,Zy,Zy,Zy,Zy,Zy,Zy,Zy,Zz,Zz,Zz]) 13 (⟨H4.iarg ha, H4.iarg hb⟩)
   ·intro wS sS
    refine Zx (Z01 ?_)
    exact Z04 rfl
   apply Zu (L' := [Zy,Zy,Zy,Zy,Zy,Zy,Zy,Zy,Zy,Zy,Zy,Zy,Zy,Zy,Zy,Zz,Zz]) 14 (⟨H4.iarg ha, H4.iarg hb⟩)
   ·intro wS sS
    refine Z1c (j := k - 1) rfl rfl underlying155 tz24 rfl rfl hvq7 ZP ZI ?_
    refine Z01 ?_
    exact Z04 rfl
   refine Z0v (L' := [Zy,Zy,Zy,Zy,Zy,Zy,Zy,Zy,Zy,Zy,Zy,Zy,Zy,Zy,Zy,Zy,Zz]) 15 ZK rfl rfl ?_
   refine Z1w H4 .head hvq7 rfl tz24 rfl rfl ZI (fun w5 H5 => ?_)
   refine Z01 ?_
   refine Z0n (⟨H5.iarg ha, H5.iarg hb⟩) ?_
   apply Zu (L' := [Zy,Zy,Zy,Zy,Zy,Zy,Zy,Zy,Zy,Zy,Zy,Zy,Zy,Zy,Zy,Zy,Zy]) 16 (⟨H5.iarg ha, H5.iarg hb⟩)
   ·intro wS sS
    refine Zg (Z01 ?_)
    exact Z04 rfl
   refine Z0B ZK ?_
   refine Z0F ?_
   refine Z02 ?_
   refine Zk [0, 1, 4, 6, 7] ?_
   refine Z00 (Zm ?_)
   refine Z0W rfl rfl rfl rfl (Z0l ZO) ?_
   refine Zg (Z01 ?_)
   refine Z0p (i := (k, o, q)) (k - 1, o.set (k - 1) ((q * 18446744073709551616 + la.getD (k - 1) 0) / lb.getD 0 0), (q * 18446744073709551616 + la.getD (k - 1) 0) % lb.getD 0 0) ?_ ?_ (.cons rfl (.cons rfl (.cons rfl .nil))) ?_
   ·first | omega | (simp; omega)
   ·have hx0 := Int.emod_nonneg (q * 18446744073709551616 + la.getD (k - 1) 0) (show lb.getD 0 0 ≠ 0 by omega)
    have hx1 := Int.emod_lt_of_pos (q * 18446744073709551616 + la.getD (k - 1) 0) (show 0 < lb.getD 0 0 by omega)
    have hx2 : 0 ≤ (q * 18446744073709551616 + la.getD (k - 1) 0) / lb.getD 0 0 := Int.ediv_nonneg ZO ZO
    have hx3 : (q * 18446744073709551616 + la.getD (k - 1) 0) / lb.getD 0 0 < 18446744073709551616 := Int.ediv_lt_of_lt_mul ZO ZO
    refine ⟨H5, ZO, by simpa using hol, hUo.set ZO _, hx0, hx1, ?_⟩
    have h1 := Ma.vb_drop 18446744073709551616 (l := la) (k := k - 1) ZO
    have h2 := Ma.vb_drop 18446744073709551616 (l := o.set (k - 1) ((q * 18446744073709551616 + la.getD (k - 1) 0) / lb.getD 0 0)) (k := k - 1) (by simp; omega)
    rw [show k - 1 + 1 = k from by omega] at h1 h2
    have hds : (o.set (k - 1) ((q * 18446744073709551616 + la.getD (k - 1) 0) / lb.getD 0 0)).drop k = o.drop k := List.drop_set_of_lt ZO
    rw [hds, Z3w _ _ _ _ _ ZO, if_pos rfl] at h2
    show Ma.vb _ _ * _ + _ = Ma.vb _ _
    rw [h1, h2]
    exact Ma.quo_step ZO ZO hval
   exact (.cons rfl ZN (.cons rfl ZN .nil))
  refine Z0H ?_
  refine Z06 ?_
  refine Z06 ?_
  refine Z0h ?_
  refine Z02 ?_
  refine Zk [4, 6] ?_
  refine Z03 (Z00 (Zm (Zm ?_)))
  refine Z2g H2 rfl rfl underlying155 ti24 rfl (.cons rfl ZR .nil) rfl rfl rfl (fun b8_2 w6 H6 => ?_)
  have H7 := H6.blk_own (show 1 ≤ maxLen by decide)
  refine Zg (Zg (Z01 (Z02 ?_)))
  refine Zk [4, 5] ?_
  refine Z0i ?_
  refine Z07 ?_
  refine Z0P results276 rfl rfl ?_
  refine ⟨_, rfl, ?_⟩
  have H8 := St.front1 H7
  obtain rfl : k = 0 := by omega
  simp only [List.drop_zero] at hval
  have hd := div_of (n := nv la) (y := lb.getD 0 0) (Q := nv o) (r := q) (by rw [← hval]) hq0 hq1
  exact ⟨_, _, o, [q], rfl, hUo, fun x hx => by rw [List.mem_singleton.1 hx]; omega, ZO, by simp, by rw [hb0, hd.1], by rw [hb0, hd.2]; simp [Ma.vb], H8.grows⟩
 have hn2 : 2 ≤ lb.length := by omega
 refine Z0a (Z02 ?_)
 refine Zk [0, 1] ?_
 refine Z03 (Z00 (Zm (Zm ?_)))
 refine Z0u rfl rfl underlying155 rfl (by first | exact H0.iarg ha | exact H0.iarg hb | assumption) ?_
 refine Z0W rfl rfl rfl rfl (Z0l ZO) ?_
 refine Z0T (j := lb.length - 1) rfl rfl rfl rfl underlying155 tz24 underlying24 rfl rfl (by first | exact H0.iarg ha | exact H0.iarg hb | assumption) ZA rfl ZO ZI (fun hb9_4 => ?_)
 refine Z13 rfl rfl func288 rfl rfl (.cons rfl .nil) (lz64 _ hb9_4 _) ?_
 have hbl0 := Ma.blen_pos htop
 have hbl1 := (Ma.blen_le_iff hb9_4.1 64).2 ZO
 obtain ⟨up, hup⟩ : ∃ up : Nat, (up : Int) = 64 - Ma.blen (lb.getD (lb.length - 1) 0) := ⟨(64 - Ma.blen (lb.getD (lb.length - 1) 0)).toNat, ZO⟩
 have hup63 : up ≤ 63 := by omega
 refine Z0j (s := 51) (v' := .int .i64 (up : Int)) rfl (by rw [hup]) ?_
 have hu2 := Ma.pow_pos (show (0 : Int) < 2 by omega) up
 refine Zg (Z01 (Z02 ?_))
 refine Zk [0, 1, 8] ?_
 refine Z03 (Z00 (Zm (Zm ?_)))
 refine Zc func274 (shlN b lb hUb ZO up ZO w (H0.iarg hb)) ?_
 rintro vd w9 ⟨_, ds, rfl, hUd, hdsl, hdv, hG⟩
 have H9 := hG _ _ _ _ H0
 simp only [Zca, Zna] at H9
 refine Zm ?_
 refine Z0u rfl rfl underlying155 rfl (by first | exact H9.io mem0 | exact H9.iarg ha | exact H9.iarg hb | assumption) ?_
 refine v_head (h := lb.length) rfl rfl underlying155 tz24 rfl rfl (by first | exact H9.io mem0 | exact H9.iarg ha | exact H9.iarg hb | assumption) ZP ZI (fun A10_5 c10_5 h10_5 => ?_)
 subst h10_5
 obtain ⟨vd2, hvd2⟩ : ∃ v, v = Value.slice A10_5 lb.length c10_5 := ⟨_, rfl⟩
 obtain ⟨dl, hdl⟩ : ∃ dl, dl = ds.take lb.length := ⟨_, rfl⟩
 have H10 : St w w.heap.size Z0J [As.ri 24 .u64 vd2 dl] w9 := by
  have h := St.head H9 .head (h := lb.length) (by simp; omega)
  rw [← List.map_take, ← hdl, ← hvd2] at h
  have e : As.ro 24 vd2 (List.map (Value.int .u64) dl) = As.ri 24 .u64 vd2 dl := rfl
  exact h
 rw [← hvd2]
 refine Zg (Z01 (Z02 ?_))
 refine Zk [0, 8, 9] ?_
 refine Z03 (Z00 ?_)
 have hUdl : U dl := by rw [hdl]; exact hUd.takeN _
 have hdll : dl.length = lb.length := by rw [hdl, List.length_take]; omega
 have hblD : Ma.blen (nv lb * 2 ^ up) = 64 * (dl.length : Int) := by
  obtain ⟨m, hm, hm1, hm2⟩ := Ma.blen_spec htop
  have hbe := Z71 hbpos up
  have hbw : Ma.blen (nv lb) = ((64 * (lb.length - 1) : Nat) : Int) + Ma.blen (lb.getD (lb.length - 1) 0) := by
   have := Ma.blen_shift (a := lb.getD (lb.length - 1) 0) (r := sb) (k := 64 * (lb.length - 1)) htop sb0 (by rw [Int.pow_mul]; exact sb1)
   rw [← this, sbe, Int.pow_mul]
   rfl
  rw [hbe, hbw]
  omega
 have hDlt : nv lb * 2 ^ up < 18446744073709551616 ^ dl.length := by
  have := (Ma.blen_le_iff (Int.le_of_lt (Int.mul_pos hbpos hu2)) (64 * dl.length)).1 ZO
  rw [Int.pow_mul] at this
  exact this
 have hDge : 18446744073709551616 ^ dl.length ≤ 2 * (nv lb * 2 ^ up) := by
  rcases Int.lt_or_le (2 * (nv lb * 2 ^ up)) (18446744073709551616 ^ dl.length) with h | h
  ·exfalso
   have h1 : nv lb * 2 ^ up < 2 ^ (64 * dl.length - 1) := by
    have e : (2 : Int) ^ (64 * dl.length) = 18446744073709551616 ^ dl.length := by rw [Int.pow_mul]; rfl
    have e2 : (2 : Int) ^ (64 * dl.length) = 2 ^ (64 * dl.length - 1) * 2 := Z3X 2 ZO
    omega
   have := (Ma.blen_le_iff (Int.le_of_lt (Int.mul_pos hbpos hu2)) (64 * dl.length - 1)).2 h1
   omega
  exact h
 have hdv2 : nv dl = nv lb * 2 ^ up := by
  have h1 : nv ds < 18446744073709551616 ^ dl.length := by rw [hdv]; exact hDlt
  have h2 := nv_take_le hUd lb.length
  obtain ⟨lo, l0, l1, le⟩ := win_val hUd (i := 0) (m := lb.length) ZO (by rw [Nat.zero_add, ← hdll]; exact h1)
  rw [Int.pow_zero, Int.one_mul, List.drop_zero] at le
  rw [Int.pow_zero] at l1
  rw [hdl, ← hdv]
  omega
 rw [← hdv2] at hDlt hDge
 have hDpos : 0 < nv dl := by rw [hdv2]; exact Int.mul_pos hbpos hu2
 have hdtop : 0 < dl.getD (dl.length - 1) 0 := by
  obtain ⟨t, t0, t1, te⟩ := Z4e hUdl (dl.length - 1) ZO
  have hg := Z1j hUdl (dl.length - 1)
  rcases Int.lt_or_eq_of_le hg.1 with h | h
  ·exact h
  exfalso
  rw [← h, Int.mul_zero, Int.add_zero] at te
  have h1 : (18446744073709551616 : Int) ^ dl.length = 18446744073709551616 ^ (dl.length - 1) * 18446744073709551616 := Z3X _ ZO
  omega
 refine Zm (Zm ?_)
 refine Zc func274 (shlN a la hUa ZO up ZO w9 (H10.iarg ha)) ?_
 rintro vr w11 ⟨_, rs, rfl, hUrs, hrsl, hrsv, hG⟩
 have H11 := hG _ _ _ _ H10
 simp only [Zca, Zna] at H11
 refine Zg (Z01 (Z02 ?_))
 refine Zk [5, 8, 9] ?_
 refine Z03 (Z00 (Zm ?_))
 refine Z0u rfl rfl underlying155 rfl (by first | exact H11.io mem0 | exact H11.io mem1 | exact H11.iarg ha | exact H11.iarg hb | assumption) ?_
 refine Zg (Z01 (Z02 ?_))
 refine Zk [5, 8, 9, 10] ?_
 refine Z03 (Z00 (Zm ?_))
 refine Z0u rfl rfl underlying155 rfl (by first | exact H11.io mem0 | exact H11.io mem1 | exact H11.iarg ha | exact H11.iarg hb | assumption) ?_
 refine Zm ?_
 refine Z0W rfl rfl rfl rfl (Z0l ZO) ?_
 refine Z1A (m := la.length + 1 - dl.length) (c := la.length + 1 - dl.length) H11 rfl rfl underlying155 ti24 rfl rfl rfl ZO ZO ZO ZO ZO (fun v13_4 w12 H12 => ?_)
 refine Zg (Z01 (Z02 ?_))
 refine Zk [4, 5, 8, 9, 10] ?_
 refine Z03 (Z03 (Z00 ?_))
 have H13 := St.frontL (l := [_]) H12
 simp only [Zca, Zna] at H13
 have H14 := H13.cast (show [As.ri 24 .u64 vr rs, As.ro 24 v13_4 (List.replicate (la.length + 1 - dl.length) (Value.int IntKind.u64 0)), As.ri 24 .u64 vd2 dl] = [As.ri 24 .u64 vr rs, As.ri 24 .u64 v13_4 (List.replicate (la.length + 1 - dl.length) 0), As.ri 24 .u64 vd2 dl] from by rw [Z14])
 refine Zm ?_
 refine Z0u rfl rfl underlying155 rfl (by first | exact H14.io mem0 | exact H14.io mem1 | exact H14.io mem2 | exact H14.iarg ha | exact H14.iarg hb | assumption) ?_
 refine Z0j (s := 69) (v' := .int .i64 ((la.length + 1 - dl.length : Nat) : Int)) rfl (by rw [List.length_replicate]) ?_
 refine Z0W rfl rfl rfl rfl (Z0l ZO) ?_
 refine Zg (Z01 (Z02 ?_))
 refine Zk [4, 5, 8, 9, 10, 11] ?_
 refine Z0d ?_
 refine Z0z (ι := Nat × List Int × List Int) (fun (z0 : Nat × List Int × List Int) => match z0 with | ⟨k, ql, rl⟩ => k) (fun (z0 : Nat × List Int × List Int) (w' : World) => match z0 with | ⟨k, ql, rl⟩ => St w w.heap.size Z0J ([As.ri 24 .u64 vr rl, As.ri 24 .u64 v13_4 ql, As.ri 24 .u64 vd2 dl]) w' ∧ k ≤ la.length + 1 - dl.length ∧ ql.length = la.length + 1 - dl.length ∧ U ql ∧ rl.length = la.length + 1 ∧ U rl ∧ (∀ j, j < k → ql.getD j 0 = 0) ∧ nv rl + nv dl * nv ql = nv la * 2 ^ up ∧ nv rl < nv dl * 18446744073709551616 ^ k) (fun (z0 : Nat × List Int × List Int) => match z0 with | ⟨k, ql, rl⟩ => [(11, .int .i64 ((k : Int) - 1))]) [4, 5, 8, 9, 10] (la.length + 1 - dl.length, List.replicate (la.length + 1 - dl.length) 0, rs) ?_ (.cons rfl (.cons rfl (.cons rfl (.cons rfl (.cons rfl .nil))))) ?_ ?_
 ·refine ⟨H14, Nat.le_refl _, by simp, U.zeros _, ZO, hUrs, fun j _ => Z4Q _ _, ?_, ?_⟩
  ·rw [hrsv, show nv (List.replicate (la.length + 1 - dl.length) 0) = 0 from Ma.vb_zeros _ _, Int.mul_zero, Int.add_zero]
  rw [hrsv]
  have h1 : nv la < 18446744073709551616 ^ la.length := Ma.vb_lt (show (0 : Int) < 18446744073709551616 by omega) hUa.dg
  have h2 : nv la * 2 ^ up < 18446744073709551616 ^ la.length * 2 ^ up := Int.mul_lt_mul_of_pos_right h1 hu2
  have h3 : (2 : Int) ^ up ≤ 2 ^ 63 := Ma.pow_mono ZO hup63
  have h4 : (18446744073709551616 : Int) ^ la.length * 2 ^ up ≤ 18446744073709551616 ^ la.length * 2 ^ 63 := Int.mul_le_mul_of_nonneg_left h3 (Int.le_of_lt (Ma.pow_pos (show (0 : Int) < 18446744073709551616 by omega) _))
  have h5 : 18446744073709551616 ^ dl.length * 18446744073709551616 ^ (la.length + 1 - dl.length) ≤ 2 * nv dl * 18446744073709551616 ^ (la.length + 1 - dl.length) := Int.mul_le_mul_of_nonneg_right hDge (Int.le_of_lt (Ma.pow_pos ZO _))
  rw [← Int.pow_add, show dl.length + (la.length + 1 - dl.length) = la.length + 1 from by omega, Int.pow_succ, Int.mul_assoc] at h5
  have h6 : (2 : Int) ^ 63 = 9223372036854775808 := by decide
  rw [h6] at h4
  omega
 ·exact (.cons rfl ZN .nil)
 rintro ⟨k, ql, rl⟩ w15 ⟨H15, hk, hqll, hUq, hrll, hUr, hqz, hsum, hrlt⟩
 show RunC P _ _ _ (_ :: _) _
 refine Z03 (Z03 (Z00 (Zm ?_)))
 refine Zh ?_
 refine Z01 (Z02 ?_)
 refine Zk [4, 5, 8, 9, 10, 11, 72] ?_
 (first | refine Z0c rfl ?_ ?_ | refine Z08 rfl ?_ ?_) <;> intro hc2
 ·refine Z0a (Z02 ?_)
  refine Zk [4, 5, 8, 9, 10, 11] ?_
  refine Z03 (Z0d (Z03 (Z00 (Zm (Zm (Zm (Zm ?_)))))))
  refine Z0y rfl rfl rfl rfl (Z0l ZO) ?_
  refine Z0y rfl rfl rfl rfl (Z0l ZO) ?_
  refine Zm (Zm ?_)
  refine Z0y rfl rfl rfl rfl (Z0l ZO) ?_
  refine Z0y rfl rfl rfl rfl (Z0l ZO) ?_
  refine Z4F (l := k - 1) (m := dl.length + 1) (h := k - 1 + dl.length + 1) rfl rfl underlying155 tz24 rfl rfl rfl rfl (by first | exact H15.io mem0 | exact H15.io mem1 | exact H15.io mem2 | exact H15.iarg ha | exact H15.iarg hb | assumption) ZD ZD (.inr ZD) (by simp) ZO ZI ZO (fun A17_10 c17_10 d17_10 h17_10 hc17_10 => ?_)
  obtain ⟨ad, c0, hv0⟩ := (H15.io mem0).lies (by simp; omega)
  rw [h17_10] at hv0
  injection hv0 with e1 e2 e3
  subst e1
  refine Zg (Z01 (Z02 ?_))
  refine Zk [4, 5, 8, 9, 10, 11, 12] ?_
  refine Z03 (Z00 ?_)
  obtain ⟨pl, hpl⟩ : ∃ pl, pl = (rl.drop (k - 1)).take (dl.length + 1) := ⟨_, rfl⟩
  have hUp : U pl := by rw [hpl]; exact (hUr.drop _).takeN _
  have hpll : pl.length = dl.length + 1 := by rw [hpl, List.length_take, List.length_drop]; omega
  have hpk := Ma.pow_pos (show (0 : Int) < 18446744073709551616 by omega) (k - 1)
  have ekk : (18446744073709551616 : Int) ^ k = 18446744073709551616 ^ (k - 1) * 18446744073709551616 := Z3X _ ZO
  have hrlt2 : nv rl < 18446744073709551616 ^ (k - 1 + (dl.length + 1)) := by
   have h1 : nv dl * 18446744073709551616 ^ k ≤ 18446744073709551616 ^ dl.length * 18446744073709551616 ^ k := Int.mul_le_mul_of_nonneg_right (Int.le_of_lt hDlt) (Int.le_of_lt (Ma.pow_pos ZO k))
   rw [← Int.pow_add, show dl.length + k = k - 1 + (dl.length + 1) from by omega] at h1
   omega
  obtain ⟨lo, hlo0, hlo1, hrv⟩ := win_val hUr (i := k - 1) (m := dl.length + 1) ZO hrlt2
  rw [← hpl] at hrv
  have hplt : nv pl < 18446744073709551616 * nv dl := digit_hi hpk hrv hlo0 (by rw [← ekk]; exact hrlt)
  refine Zm (Zm (Zm (Zm ?_)))
  refine Z0I rfl rfl func290 rfl rfl (.cons rfl (.cons rfl .nil)) (guessN _ vd2 pl dl hUp hUdl hpll ZO ZO hdtop hplt w15 (by rw [hpl]; exact win_is h17_10 (H15.io mem0) ZO hc17_10) (H15.io mem2)) ?_
  rintro _ w16 ⟨g, rfl, hg0, hg1, hqg, hG⟩
  have H16 := hG _ _ _ _ H15
  simp only [Zca, Zna] at H16
  have hqU := hUq.set ⟨hg0, hg1⟩ (k - 1)
  refine Z2o (j := k - 1) rfl rfl underlying155 tz24 rfl rfl (by first | exact H16.io mem0 | exact H16.io mem1 | exact H16.io mem2 | exact H16.iarg ha | exact H16.iarg hb | assumption) ZO ZI (fun A18_5 c18_5 hA18_5 => ?_)
  refine Z1w H16 (.tail .head) hA18_5 rfl tz24 rfl rfl ZI (fun w17 H17 => ?_)
  refine Z01 (Z02 ?_)
  refine Zk [4, 5, 8, 9, 10, 11, 12] ?_
  refine Z03 (Z00 (Zm (Zm (Zm (Zm ?_)))))
  refine Z0T (j := k - 1) rfl rfl rfl rfl underlying155 tz24 underlying24 rfl rfl (by first | exact H17.io mem0 | exact H17.io mem1 | exact H17.io mem2 | exact H17.iarg ha | exact H17.iarg hb | assumption) ZA rfl ZO ZI (fun hb19_4 => ?_)
  refine Z0j (s := 97) (v' := .int .u64 g) rfl (by rw [Z3w _ _ _ _ _ ZO, if_pos rfl]) ?_
  refine Z0I rfl rfl func291 rfl rfl (.cons rfl (.cons rfl (.cons rfl .nil))) (timesN vr vd2 ad rl dl _ c17_10 d17_10 (k - 1) h17_10 (by simp) hc17_10 hUr hUdl ZO ZO g ⟨hg0, hg1⟩ w17 (H17.ok mem0) (H17.rowlt mem0) (fun w1 h => Own.iv (St.tailKeeps H17 mem1 w1 h))) ?_
  rintro _ w18 ⟨ro, bo, rfl, hUo, hol, hbo0, hbo1, hhi, hnv, hT⟩
  have H18 := hT _ _ _ _ _ .head H17
  refine Zg (Z01 (Z02 ?_))
  refine Zk [4, 5, 8, 9, 10, 11, 12, 13] ?_
  refine Z0d ?_
  refine Z0z (ι := Int × List Int × Int) (fun (z0 : Int × List Int × Int) => match z0 with | ⟨g', ro', bo⟩ => g'.toNat) (fun (z0 : Int × List Int × Int) (w' : World) => match z0 with | ⟨g', ro', bo⟩ => St w w.heap.size Z0J ([As.ri 24 .u64 vr ro', As.ri 24 .u64 v13_4 (ql.set (k - 1) g'), As.ri 24 .u64 vd2 dl]) w' ∧ 0 ≤ g' ∧ g' ≤ 18446744073709551615 ∧ ro'.length = la.length + 1 ∧ U ro' ∧ 0 ≤ bo ∧ bo ≤ 1 ∧ (∀ j, k - 1 + dl.length + 1 ≤ j → ro'.getD j 0 = 0) ∧ nv ro' = nv rl - 18446744073709551616 ^ (k - 1) * (g' * nv dl) + 18446744073709551616 ^ (k - 1 + dl.length + 1) * bo ∧ nv pl / nv dl ≤ g') (fun (z0 : Int × List Int × Int) => match z0 with | ⟨g', ro', bo⟩ => [(13, .int .u64 bo)]) [4, 5, 8, 9, 10, 11, 12] (g, ro, bo) ?_ (.cons rfl (.cons rfl (.cons rfl (.cons rfl (.cons rfl (.cons rfl (.cons rfl .nil))))))) ?_ ?_
  ·exact ⟨H18, hg0, hg1, ZO, hUo, hbo0, hbo1, fun j hj => by rw [hhi j hj]; exact high_zero hUr hrlt2 j ZO, hnv, hqg⟩
  ·exact (.cons rfl ZN .nil)
  rintro ⟨g', ro', bo⟩ w19 ⟨H19, hg0', hg1', hol', hUo', hbo0', hbo1', hhi', hnv', hqg'⟩
  show RunC P _ _ _ (_ :: _) _
  refine Z03 (Z03 (Z00 (Zm ?_)))
  refine Zo ?_
  refine Z01 (Z02 ?_)
  refine Zk [4, 5, 8, 9, 10, 11, 12, 13, 100] ?_
  (first | refine Z0c rfl ?_ ?_ | refine Z08 rfl ?_ ?_) <;> intro hc3
  ·refine Z0a (Z02 ?_)
   refine Zk [4, 5, 8, 9, 10, 11, 12, 13] ?_
   refine Z03 (Z0d (Z00 (Zm (Zm (Zm ?_)))))
   refine Z0I rfl rfl func292 rfl rfl (.cons rfl (.cons rfl .nil)) (moreN vr vd2 ad ro' dl _ c17_10 d17_10 (k - 1) h17_10 (by simp; omega) hc17_10 hUo' hUdl ZO ZO w19 (H19.ok mem0) (H19.rowlt mem0) (fun w1 h => Own.iv (St.tailKeeps H19 mem1 w1 h))) ?_
   rintro _ w20 ⟨ro2, b2, rfl, hUo2, hol2, hb20, hb21, hhi2, hnv2, hT⟩
   have H20 := hT _ _ _ _ _ .head H19
   refine Z0W rfl rfl rfl rfl (Z1p ZO) ?_
   refine Zg (Z01 ?_)
   refine Z0F ?_
   refine Z02 ?_
   refine Zk [4, 5, 8, 9, 10, 11, 12, 13] ?_
   refine Z00 ?_
   have hqU2 := hUq.set ⟨hg0', hg1'⟩ (k - 1)
   refine Zm (Zm ?_)
   refine Z0T (j := k - 1) rfl rfl rfl rfl underlying155 tz24 underlying24 rfl rfl (by first | exact H20.io mem0 | exact H20.io mem1 | exact H20.io mem2 | exact H20.iarg ha | exact H20.iarg hb | assumption) ZA rfl ZO ZI (fun hb21_2 => ?_)
   refine Z0j (s := 104) (v' := .int .u64 g') rfl (by rw [Z3w _ _ _ _ _ ZO, if_pos rfl]) ?_
   have hless : nv pl / nv dl < g' := by
    have hb1' : bo = 1 := by omega
    rw [hb1', Int.mul_one] at hnv'
    have hlow := low_lt hUo' hhi'
    exact digit_owed hpk hDpos hrv hlo0 hnv' hlow hUp.nv_nonneg
   have hq0 : 0 ≤ nv pl / nv dl := Int.ediv_nonneg hUp.nv_nonneg (Int.le_of_lt hDpos)
   refine Z0W rfl rfl rfl rfl (Z1p ZO) ?_
   refine Z2o (j := k - 1) rfl rfl underlying155 tz24 rfl rfl (by first | exact H20.io mem0 | exact H20.io mem1 | exact H20.io mem2 | exact H20.iarg ha | exact H20.iarg hb | assumption) ZO ZI (fun A21_5 c21_5 hA21_5 => ?_)
   refine Z1w H20 (.tail .head) hA21_5 rfl tz24 rfl rfl ZI (fun w21 H21 => ?_)
   refine Z01 ?_
   refine Z0p (i := (g', ro', bo)) (g' - 1, ro2, bo - b2) ?_ ?_ (.cons rfl (.cons rfl (.cons rfl (.cons rfl (.cons rfl (.cons rfl (.cons rfl .nil))))))) ?_
   ·first | omega | (simp; omega)
   ·refine ⟨H21.cast (by rw [List.set_set]), ZO, ZO, ZO, hUo2, ZO, ZO, fun j hj => by rw [hhi2 j hj]; exact hhi' j hj, ?_, ZO⟩
    rw [hnv2, hnv', Int.sub_mul, Int.one_mul, Int.mul_sub, Int.mul_sub]
    omega
   exact (.cons rfl ZN .nil)
  refine Z0H ?_
  refine Z06 ?_
  refine Z06 ?_
  refine Z0h ?_
  refine Z0F ?_
  refine Z02 ?_
  refine Zk [4, 5, 8, 9, 10, 11] ?_
  refine Z00 (Zm ?_)
  refine Z0W rfl rfl rfl rfl (Z0l ZO) ?_
  refine Zg (Z01 ?_)
  refine Z0p (i := (k, ql, rl)) (k - 1, ql.set (k - 1) g', ro') ?_ ?_ (.cons rfl (.cons rfl (.cons rfl (.cons rfl (.cons rfl .nil))))) ?_
  ·first | omega | (simp; omega)
  ·have hb0' : bo = 0 := by omega
   rw [hb0', Int.mul_zero, Int.add_zero] at hnv'
   have h1 := Ma.vb_set_at 18446744073709551616 ql (k - 1) g' ZO
   rw [hqz (k - 1) ZO, Int.sub_zero] at h1
   refine ⟨H19, ZO, by simpa using hqll, hUq.set ⟨hg0', hg1'⟩ _, hol', hUo', fun j hj => by rw [Z17 _ ZO]; exact hqz j ZO, ?_, digit_end hpk hDpos hrv hlo1 hnv' hqg'⟩
   show nv ro' + nv dl * Ma.vb _ _ = _
   rw [h1, hnv', ← hsum, Int.mul_add]
   have e : nv dl * (18446744073709551616 ^ (k - 1) * g') = 18446744073709551616 ^ (k - 1) * (g' * nv dl) := by rw [Int.mul_left_comm, Int.mul_comm g']
   have e0 : nv dl * Ma.vb 18446744073709551616 ql = nv dl * nv ql := rfl
   rw [e, e0]
   omega
  exact (.cons rfl ZN .nil)
 refine Z0H ?_
 refine Z06 ?_
 refine Z06 ?_
 refine Z0h ?_
 refine Z02 ?_
 refine Zk [4, 5, 8] ?_
 refine Z03 (Z00 (Zm (Zm ?_)))
 refine Zc func264 (Z2U hUr ZO (H15.io mem0)) ?_
 rintro vt w22 ⟨_, rfl, hT⟩
 have H22 := hT _ _ _ _ _ .head H15
 have htl : (Ma.tr rl).length ≤ rl.length := (Ma.tr_take rl).2.1
 have hUt : U (Ma.tr rl ++ [0]) := fun x hx => (List.mem_append.1 hx).elim (hUr.tr x) (fun h => by rw [List.mem_singleton.1 h]; omega)
 refine Z2g H22 rfl rfl underlying155 ti24 rfl (.cons rfl ZR .nil) rfl rfl rfl (fun b23_3 w23 H23 => ?_)
 refine Z46 H23 rfl rfl underlying155 ti24 rfl rfl rfl rfl (by first | (simp [Value.oneCell']; done) | (intro u hu; rw [List.mem_singleton.1 hu]; assumption)) (by first | (simp; done) | (simp; omega)) (by first | (simp; done) | (simp; omega)) (fun v23_4 w24 H24 => ?_)
 refine Zm ?_
 refine Z0I rfl rfl func293 rfl rfl (.cons rfl (.cons rfl .nil)) (shrN _ (Ma.tr rl ++ [0]) hUt (by simp; omega) up ZO (by simp; omega) w24 (by rw [← ints_snoc]; exact H24.io mem0)) ?_
 rintro vs w25 ⟨_, ls, rfl, hUs, hls, hns, hG⟩
 have H25 := hG _ _ _ _ H24
 simp only [Zca, Zna] at H25
 refine Zg (Zg (Z01 (Z02 ?_)))
 refine Zk [4, 5] ?_
 refine Z0i ?_
 refine Z0P results276 rfl rfl ?_
 refine ⟨_, rfl, ?_⟩
 have H28 := St.del (.tail (.tail .head)) (St.del (.tail (.tail (.tail .head))) (St.front2 H25))
 obtain rfl : k = 0 := by omega
 rw [Int.pow_zero, Int.mul_one] at hrlt
 have hd := div_of (n := nv la * 2 ^ up) (y := nv dl) (Q := nv ql) (r := nv rl) (by rw [← hsum, Int.mul_comm (nv ql)]; omega) hUr.nv_nonneg hrlt
 rw [hdv2, Int.mul_ediv_mul_of_pos_left _ _ hu2, Int.mul_comm (nv la), Int.mul_comm (nv lb), Int.mul_emod_mul_of_pos _ _ hu2] at hd
 refine ⟨_, _, ql, ls, rfl, hUq, hUs, ZO, by rw [hls]; simp; omega, hd.1.symm, ?_, H28.grows⟩
 rw [hns, show nv (Ma.tr rl ++ [0]) = nv rl from by show Ma.vb _ _ = _; rw [Ma.vb_append]; simp [Ma.vb, Ma.tr_val], ← hd.2, Int.mul_ediv_cancel_left _ ZO]
def DivR (w w' : World) (r : Value) (e q m : Int) : Prop := ∃ vq vr lq lr, r = .tuple #[vq, vr, .int .i64 e] ∧ Ma.Cn 18446744073709551616 lq q ∧ Ma.Cn 18446744073709551616 lr m ∧ Grow w w' [As.ri 24 .u64 vq lq, As.ri 24 .u64 vr lr]
def divS (a b : Int) : Int × Int × Int := if 8192 < Ma.blen a ∨ 8192 < Ma.blen b then (21, 0, 0) else if b = 0 then (22, 0, 0) else (0, a / b, a % b)
theorem divModN (a b : Value) (la lb : List Int) (hUa : U la) (hUb : U lb) (hLa : la.length ≤ 1073741824) (hLb : lb.length ≤ 1073741824) (w : World) (ha : IV w a (ints .u64 la)) (hb : IV w b (ints .u64 lb)) :
  Z0f P 252 [a, b] w fun r w' => DivR w w' r (divS (nv la) (nv lb)).1 (divS (nv la) (nv lb)).2.1 (divS (nv la) (nv lb)).2.2 := by
 refine Z0o func252 rfl ntmps252 rfl ?_
 have H0 := St.start w
 obtain ⟨A, ca, rfl, hca, hsa⟩ := ha
 have ha : IV w (.slice A (ints .u64 la).length ca) (ints .u64 la) := ⟨A, ca, rfl, hca, hsa⟩
 obtain ⟨A2, cb, rfl, hcb, hsb⟩ := hb
 have hb : IV w (.slice A2 (ints .u64 lb).length cb) (ints .u64 lb) := ⟨A2, cb, rfl, hcb, hsb⟩
 have hva := Z21 ha
 have hvb := Z21 hb
 have hta : (Ma.tr la).length ≤ la.length := (Ma.tr_take la).2.1
 have htb : (Ma.tr lb).length ≤ lb.length := (Ma.tr_take lb).2.1
 have hUa2 := hUa.tr
 have hUb2 := hUb.tr
 clear hsa hsb
 have cna : Ma.Cn 18446744073709551616 (Ma.tr la) (nv la) := Ma.Cn.of_tr hUa.dg rfl
 have cnb : Ma.Cn 18446744073709551616 (Ma.tr lb) (nv lb) := Ma.Cn.of_tr hUb.dg rfl
 refine Z03 (Z00 (Zg (Zg (Zg (Z01 (Z02 ?_))))))
 refine Zk [0, 1] ?_
 refine Z03 (Z0d (Z03 (Z00 (Zm ?_))))
 refine Zp func265 (Z4S A ca la hUa ZO w (H0.iarg ha)) ?_
 refine Zm ?_
 apply l_or 2 [0, 1] rfl rfl (.cons rfl (.cons rfl (.cons rfl .nil))) rfl rfl (fun _ => rfl) rfl rfl rfl
 ·intro hg1_3
  refine Zm ?_
  refine Zp func265 (Z4S A2 cb lb hUb ZO w (H0.iarg hb)) ?_
  refine Z01 ?_
  exact Z0O rfl (.cons rfl (ZF hg1_3) (.cons rfl rfl (.cons rfl rfl .nil)))
 refine Zg (Z01 (Z02 ?_))
 refine Zk [0, 1, 7] ?_
 (first | refine Z0c rfl ?_ ?_ | refine Z08 rfl ?_ ?_) <;> intro hc0
 ·refine Z03 (Z00 (Zg (Zg (Zg (Z01 (Z02 ?_))))))
  refine Zk [4, 5, 6] ?_
  refine Z0i ?_
  refine Z0k ?_
  refine Z07 ?_
  refine Z12 results252 (.tmp rfl (.tmp rfl (.tmp rfl .nil))) rfl ?_
  refine ⟨_, rfl, ?_⟩
  have e : divS (nv la) (nv lb) = (21, 0, 0) := if_pos hc0
  rw [e]
  exact ⟨_, _, [], [], rfl, Ma.Cn.nil, Ma.Cn.nil, ((H0.nil 24).nil 24).grows⟩
 refine Z03 (Z00 (Zm ?_))
 refine Zp func250 (lenN A2 cb lb hUb ZO w (H0.iarg hb)) ?_
 refine Ze ?_
 refine Zg (Z01 (Z02 ?_))
 refine Zk [0, 1, 14] ?_
 (first | refine Z0c rfl ?_ ?_ | refine Z08 rfl ?_ ?_) <;> intro hc1
 ·refine Z03 (Z00 (Zg (Zg (Zg (Z01 (Z02 ?_))))))
  refine Zk [4, 5, 6] ?_
  refine Z0i ?_
  refine Z0k ?_
  refine Z07 ?_
  refine Z12 results252 (.tmp rfl (.tmp rfl (.tmp rfl .nil))) rfl ?_
  refine ⟨_, rfl, ?_⟩
  have hz : nv lb = 0 := by
   rcases Int.lt_or_eq_of_le hUb.nv_nonneg with h | h
   ·have := Ma.blen_pos h; omega
   exact h.symm
  have e : divS (nv la) (nv lb) = (22, 0, 0) := by unfold divS; rw [if_neg hc0, if_pos hz]
  rw [e]
  exact ⟨_, _, [], [], rfl, Ma.Cn.nil, Ma.Cn.nil, ((H0.nil 24).nil 24).grows⟩
 refine Z03 (Z00 (Zm (Zm ?_)))
 refine Z0I rfl rfl func253 rfl rfl (.cons rfl (.cons rfl .nil)) (cmpN _ _ la lb hUa hUb ZO ZO w (H0.iarg ha) (H0.iarg hb)) ?_
 rintro _ w1 ⟨rfl, hG⟩
 have H1 := hG _ _ _ _ H0
 simp only [Zca, Zna] at H1
 refine Zl ?_
 refine Zg (Z01 (Z02 ?_))
 refine Zk [0, 1, 18] ?_
 (first | refine Z0c rfl ?_ ?_ | refine Z08 rfl ?_ ?_) <;> intro hc2
 ·refine Z03 (Z00 (Zm ?_))
  refine Z0I rfl rfl func262 rfl rfl (.cons rfl .nil) (cloneN _ la hUa ZO w1 (H1.iarg ha)) ?_
  rintro vo w2 ⟨_, rfl, hG⟩
  have H2 := hG _ _ _ _ H1
  simp only [Zca, Zna] at H2
  refine Zg (Zg (Zg (Z01 (Z02 ?_))))
  refine Zk [4, 5, 6] ?_
  refine Z0i ?_
  refine Z0k ?_
  refine Z07 ?_
  refine Z12 results252 (.tmp rfl (.tmp rfl (.tmp rfl .nil))) rfl ?_
  refine ⟨_, rfl, ?_⟩
  have hlt : nv la < nv lb := Z3V.1 hc2
  have h0 := hUa.nv_nonneg
  have e : divS (nv la) (nv lb) = (0, 0, nv la) := by unfold divS; rw [if_neg hc0, if_neg ZO, Int.ediv_eq_zero_of_lt h0 hlt, Int.emod_eq_of_lt h0 hlt]
  rw [e]
  exact ⟨_, _, [], _, rfl, Ma.Cn.nil, cna, (H2.nil 24).grows⟩
 refine Z0a ?_
 refine Z0F ?_
 refine Z02 ?_
 refine Zk [0, 1] ?_
 refine Z03 (Z00 ?_)
 have hbz : nv lb ≠ 0 := fun h => by rw [h] at hc1; exact hc1 Ma.blen_zero
 have hn0 : 0 < (Ma.tr lb).length := by
  rcases Nat.eq_zero_or_pos (Ma.tr lb).length with h | h
  ·exact absurd ((cnb.nil_iff ZO).1 (List.eq_nil_of_length_eq_zero h)) hbz
  exact h
 have htop := Tr.top hUb2 (Ma.tr_Tr lb) hn0
 have hge : nv (Ma.tr lb) ≤ nv (Ma.tr la) := by
  rw [Z3M, Z3M]
  rcases Int.lt_or_le (nv la) (nv lb) with h | h
  ·exact absurd (Z3V.2 h) hc2
  exact h
 refine Zm ?_
 refine Zp func264 (trim A ca la hUa ZO w1 (H1.iarg ha)) ?_
 refine Zm ?_
 refine Zp func264 (trim A2 cb lb hUb ZO w1 (H1.iarg hb)) ?_
 refine Z0I rfl rfl func276 rfl rfl (.cons rfl (.cons rfl .nil)) (divideN _ _ (Ma.tr la) (Ma.tr lb) hUa2 hUb2 ZO ZO hn0 htop hge w1 (H1.iarg hva) (H1.iarg hvb)) ?_
 rintro _ w3 ⟨vq, vr, lq, lr, rfl, hUq, hUr, hlq, hlr, hqv, hrv, hG⟩
 have H3 := hG _ _ _ _ H1
 simp only [Zca, Zna] at H3
 refine Zm ?_
 refine Zx (Zx (Zg (Zg (Z01 (Z02 ?_)))))
 refine Zk [4, 5] ?_
 refine Z03 (Z00 (Zm ?_))
 refine Zc func264 (Z2U hUq ZO (H3.io mem0)) ?_
 rintro vq2 w4 ⟨_, rfl, hT⟩
 have H4 := hT _ _ _ _ _ .head H3
 refine Zm ?_
 refine Zc func264 (Z2U hUr ZO (H4.io mem1)) ?_
 rintro vr2 w5 ⟨_, rfl, hT⟩
 have H5 := hT _ _ _ _ _ (.tail .head) H4
 refine Zg (Zg (Zg (Z01 (Z02 ?_))))
 refine Zk [4, 5, 6] ?_
 refine Z0i ?_
 refine Z12 results252 (.tmp rfl (.tmp rfl (.tmp rfl .nil))) rfl ?_
 refine ⟨_, rfl, ?_⟩
 have e : divS (nv la) (nv lb) = (0, nv la / nv lb, nv la % nv lb) := by unfold divS; rw [if_neg hc0, if_neg hbz]
 rw [e]
 rw [Z3M, Z3M] at hqv hrv
 exact ⟨_, _, _, _, rfl, Ma.Cn.of_tr hUq.dg hqv, Ma.Cn.of_tr hUr.dg hrv, H5.grows⟩
end Go.Proofs.YtgjgahmhoflgcaaGreatDoor.W
