/- walks of nat.less, Sub -/
import Derived.Test.YtmcbdgpcbcldjaaFl
import Derived.Test.YtmcbdgpcbcldjaaRe
import Derived.Test.YtmcbdgpcbcldjaaVe
set_option linter.unusedVariables false
set_option linter.unusedSimpArgs false
set_option maxRecDepth 10000
namespace Go.Proofs.Ytmcbdgpcbcldjaa.W
open Go.Vc Go.RowKit

/-- one place of a difference -/
theorem diff_place {W p S A C x y c s d : Int} (h : S = A - C + p * c) (h1 : s = x - y - c + W * d) : S + p * s = (A + p * x) - (C + p * y) + p * W * d := by
  rw [h, h1, Int.mul_add, Int.mul_sub, Int.mul_sub, ← Int.mul_assoc]
  omega
theorem sub64_eq {x y c : Int} (hx : 0 ≤ x ∧ x ≤ 18446744073709551615) (hy : 0 ≤ y ∧ y ≤ 18446744073709551615) (hc : 0 ≤ c ∧ c ≤ 1) : (x - y - c) % 18446744073709551616 = x - y - c + 18446744073709551616 * (if x < y + c then 1 else 0) := by
  split <;> omega
theorem bor_01 {x y : Int} : 0 ≤ (if x < y then (1 : Int) else 0) ∧ (if x < y then (1 : Int) else 0) ≤ 1 := by split <;> omega

theorem lessN (va b : Value) (la lb : List Int) (hUa : U la) (hUb : U lb) (hLa : la.length ≤ 1099511627776) (hLb : lb.length ≤ 1099511627776) (w : World) (hok : (As.ri 22 .u64 va la).ok w) (hlt : ∀ k, (As.ri 22 .u64 va la).fp k → k < w.heap.size) (hb : ∀ w1 : World, (∀ k, k < w.heap.size → ¬ (As.ri 22 .u64 va la).fp k → w1.heap[k]? = w.heap[k]?) → IV w1 b (ints .u64 lb)) :
    CallsV P 96 [va, b] w fun r w' => ∃ lo c, r = .int .u64 c ∧ U lo ∧ lo.length = la.length ∧ 0 ≤ c ∧ c ≤ 1 ∧ nv lo = nv la - nv (lb.take la.length) + 18446744073709551616 ^ la.length * c ∧ Turn w w' (As.ri 22 .u64 va la) (As.ri 22 .u64 va lo) := by
  refine enterW Try.func96 rfl Try.ntmps96 rfl ?_
  have hw0 := St.startM w hok hlt
  refine c_seq ?_
  refine c_region ?_
  refine l_assign rfl rfl rfl ?_
  refine l_nil ?_
  refine e_then ?_
  refine c_keep [0, 1] (.cons rfl (.cons rfl .nil)) ?_
  refine c_seq ?_
  refine c_region ?_
  refine l_assign rfl rfl rfl ?_
  refine l_nil ?_
  refine e_then ?_
  refine c_seq ?_
  refine c_seq ?_
  refine c_region ?_
  refine l_move rfl rfl rfl ?_
  refine v_leni rfl rfl Try.underlying66 rfl (by first | exact hw0.io mem0 | exact hw0.ikM hb | assumption) ?_
  refine l_move rfl rfl rfl ?_
  refine l_nil ?_
  refine e_then ?_
  refine c_keep [0, 1, 5, 8, 9] (.cons rfl (.cons rfl (.cons rfl (.cons rfl (.cons rfl .nil))))) ?_
  refine c_block ?_
  refine c_loopk (ι := Nat × List Int × Int) (fun (z0 : Nat × List Int × Int) => match z0 with | ⟨k, o, c⟩ => la.length - k) (fun (z0 : Nat × List Int × Int) (w' : World) => match z0 with | ⟨k, o, c⟩ => St w w.heap.size (As.ri 22 .u64 va la).fp ([As.ri 22 .u64 va o]) w' ∧ k ≤ la.length ∧ o.length = la.length ∧ U o ∧ 0 ≤ c ∧ c ≤ 1 ∧ (∀ j, k ≤ j → o.getD j 0 = la.getD j 0) ∧ nv (o.take k) = nv (la.take k) - nv (lb.take k) + 18446744073709551616 ^ k * c) (fun (z0 : Nat × List Int × Int) => match z0 with | ⟨k, o, c⟩ => [(5, .int .u64 c), (9, .int .i64 (k : Int))]) [0, 1, 8] (0, la, 0) ?_ (.cons rfl (.cons rfl (.cons rfl .nil))) ?_ ?_
  · exact ⟨hw0, by omega, rfl, hUa, by omega, by omega, fun _ _ => rfl, by simp [Ma.vb]⟩
  · exact (.cons rfl (by first | rfl | (refine congrArg (Value.int _) ?_; omega)) (.cons rfl (by first | rfl | (refine congrArg (Value.int _) ?_; omega)) .nil))
  rintro ⟨k, o, c⟩ w1 ⟨hw1, hk, hol, hUo, hc1, hc2, hrest, hval⟩
  show RunC P _ _ _ (_ :: _) _
  refine c_seq ?_
  refine c_region ?_
  refine l_lss rfl rfl rfl rfl ?_
  refine l_nil ?_
  refine e_then ?_
  refine c_seq ?_
  first | refine c_cond rfl (fun hc0 => ?_) (fun hc0 => ?_) | refine c_condb rfl (fun hc0 => ?_) (fun hc0 => ?_)
  · skip
    refine c_skip ?_
    refine e_then ?_
    refine c_keep [0, 1, 5, 8, 9] (.cons rfl (.cons rfl (.cons rfl (.cons rfl (.cons rfl .nil))))) ?_
    refine c_seq ?_
    refine c_block ?_
    refine c_seq ?_
    refine c_region ?_
    refine l_move rfl rfl rfl ?_
    refine l_assign rfl rfl rfl ?_
    refine l_nil ?_
    refine e_then ?_
    refine c_keep [0, 1, 5, 6, 8, 9] (.cons rfl (.cons rfl (.cons rfl (.cons rfl (.cons rfl (.cons rfl .nil)))))) ?_
    have hw2 := hw1.drewn
    try clear hw1
    obtain ⟨A5, c5, hv5⟩ := (hw2.io mem0).lies (by simp; omega)
    have hga5 := getD_u hUo k
    have hgb5 := getD_u hUb k
    refine c_any (n := 17) [false, false, false, false, false, false, false, false, false, false, false, false, false, false, false, false, false] (fun wS => True) (by kernel_rfl) rfl rfl ?_
    apply a_take (L' := [true, false, false, false, false, false, false, false, false, false, false, false, false, false, false, false, false]) 0 rfl (by kernel_rfl) (by kernel_rfl) (by kernel_rfl) rfl rfl rfl rfl rfl (trivial)
    · intro wS sS
      refine l_move rfl rfl rfl ?_
      refine l_nil ?_
      exact e_got rfl
    apply a_take (L' := [true, true, false, false, false, false, false, false, false, false, false, false, false, false, false, false, false]) 1 rfl (by kernel_rfl) (by kernel_rfl) (by kernel_rfl) rfl rfl rfl rfl rfl (trivial)
    · intro wS sS
      refine l_move rfl rfl rfl ?_
      refine l_nil ?_
      exact e_got rfl
    apply a_take (L' := [true, true, true, false, false, false, false, false, false, false, false, false, false, false, false, false, false]) 2 rfl (by kernel_rfl) (by kernel_rfl) (by kernel_rfl) rfl rfl rfl rfl rfl (trivial)
    · intro wS sS
      refine l_move rfl rfl rfl ?_
      refine l_nil ?_
      exact e_got rfl
    apply a_take (L' := [true, true, true, true, false, false, false, false, false, false, false, false, false, false, false, false, false]) 3 rfl (by kernel_rfl) (by kernel_rfl) (by kernel_rfl) rfl rfl rfl rfl rfl (trivial)
    · intro wS sS
      refine l_move rfl rfl rfl ?_
      refine l_nil ?_
      exact e_got rfl
    apply a_take (L' := [true, true, true, true, true, false, false, false, false, false, false, false, false, false, false, false, false]) 4 rfl (by kernel_rfl) (by kernel_rfl) (by kernel_rfl) rfl rfl rfl rfl rfl (trivial)
    · intro wS sS
      refine v_addrx (j := k) rfl rfl Try.underlying66 tz22 rfl rfl hv5 (by first | rfl | omega) (by first | omega | (simp; done) | (simp; omega)) ?_
      refine l_nil ?_
      exact e_got rfl
    apply a_take (L' := [true, true, true, true, true, false, true, false, false, false, false, false, false, false, false, false, false]) 6 rfl (by kernel_rfl) (by kernel_rfl) (by kernel_rfl) rfl rfl rfl rfl rfl (trivial)
    · intro wS sS
      refine l_move rfl rfl rfl ?_
      refine l_nil ?_
      exact e_got rfl
    apply a_take (L' := [true, true, true, true, true, false, true, true, false, false, false, false, false, false, false, false, false]) 7 rfl (by kernel_rfl) (by kernel_rfl) (by kernel_rfl) rfl rfl rfl rfl rfl (trivial)
    · intro wS sS
      refine l_move rfl rfl rfl ?_
      refine l_nil ?_
      exact e_got rfl
    apply a_take (L' := [true, true, true, true, true, false, true, true, false, true, false, false, false, false, false, false, false]) 9 rfl (by kernel_rfl) (by kernel_rfl) (by kernel_rfl) rfl rfl rfl rfl rfl (trivial)
    · intro wS sS
      refine l_move rfl rfl rfl ?_
      refine l_nil ?_
      exact e_got rfl
    refine a_two (L' := [true, true, true, true, true, true, true, true, false, true, false, false, false, false, false, false, false]) (L'' := [true, true, true, true, true, false, true, true, true, true, false, false, false, false, false, false, false]) 5 8 (by kernel_rfl) rfl rfl rfl rfl ?_ ?_
    · skip
      refine v_loadi rfl rfl Try.underlying22 rfl hv5 (by first | exact hw2.io mem0 | exact hw2.ikM hb | assumption) (by assumption) (by first | omega | (simp; done) | (simp; omega)) (fun hb5_5 => ?_)
      refine l_nil ?_
      refine e_any (trivial) ?_
      refine a_one (L' := [true, true, true, true, true, true, true, true, true, true, false, false, false, false, false, false, false]) 8 (by kernel_rfl) rfl rfl ?_
      refine l_callp rfl rfl Try.func95 rfl rfl (.cons rfl (.cons rfl .nil)) (atN b lb hUb k w1.drew (hw2.ikM hb)) ?_
      refine l_nil ?_
      refine e_any (trivial) ?_
      refine a_one (L' := [true, true, true, true, true, true, true, true, true, true, true, false, false, false, false, false, false]) 10 (by kernel_rfl) rfl rfl ?_
      refine l_extern rfl rfl Try.func94 rfl rfl rfl rfl (.cons rfl (.cons rfl (.cons rfl .nil))) (run_sub64i hga5 hgb5 ⟨hc1, hc2⟩ _) ?_
      refine l_nil ?_
      refine e_any (trivial) ?_
      apply a_take (L' := [true, true, true, true, true, true, true, true, true, true, true, true, false, false, false, false, false]) 11 rfl (by kernel_rfl) (by kernel_rfl) (by kernel_rfl) rfl rfl rfl rfl rfl (trivial)
      · intro wS sS
        refine l_move rfl rfl rfl ?_
        refine l_nil ?_
        exact e_got rfl
      apply a_take (L' := [true, true, true, true, true, true, true, true, true, true, true, true, true, false, false, false, false]) 12 rfl (by kernel_rfl) (by kernel_rfl) (by kernel_rfl) rfl rfl rfl rfl rfl (trivial)
      · intro wS sS
        refine l_extract rfl rfl rfl rfl ?_
        refine l_nil ?_
        exact e_got rfl
      apply a_take (L' := [true, true, true, true, true, true, true, true, true, true, true, true, true, true, false, false, false]) 13 rfl (by kernel_rfl) (by kernel_rfl) (by kernel_rfl) rfl rfl rfl rfl rfl (trivial)
      · intro wS sS
        refine l_extract rfl rfl rfl rfl ?_
        refine l_nil ?_
        exact e_got rfl
      apply a_take (L' := [true, true, true, true, true, true, true, true, true, true, true, true, true, true, true, false, false]) 14 rfl (by kernel_rfl) (by kernel_rfl) (by kernel_rfl) rfl rfl rfl rfl rfl (trivial)
      · intro wS sS
        refine v_addrx (j := k) rfl rfl Try.underlying66 tz22 rfl rfl hv5 (by first | rfl | omega) (by first | omega | (simp; done) | (simp; omega)) ?_
        refine l_nil ?_
        exact e_got rfl
      refine a_one (L' := [true, true, true, true, true, true, true, true, true, true, true, true, true, true, true, true, false]) 15 (by kernel_rfl) rfl rfl ?_
      refine v_storei hw2 .head hv5 rfl tz22 rfl rfl (by first | omega | (simp; done) | (simp; omega)) (fun w3 hw3 => ?_)
      try clear hw2
      refine l_nil ?_
      refine e_any (trivial) ?_
      apply a_take (L' := [true, true, true, true, true, true, true, true, true, true, true, true, true, true, true, true, true]) 16 rfl (by kernel_rfl) (by kernel_rfl) (by kernel_rfl) rfl rfl rfl rfl rfl (trivial)
      · intro wS sS
        refine l_assign rfl rfl rfl ?_
        refine l_nil ?_
        exact e_got rfl
      refine a_done (by kernel_rfl) ?_
      refine e_blk ?_
      refine e_then ?_
      refine c_keep [0, 1, 5, 8, 9] (.cons rfl (.cons rfl (.cons rfl (.cons rfl (.cons rfl .nil))))) ?_
      refine c_region ?_
      refine l_add rfl rfl rfl rfl (w_i64 (by omega)) ?_
      refine l_move rfl rfl rfl ?_
      refine l_nil ?_
      refine e_againk (i := (k, o, c)) (k + 1, o.set k ((o.getD k 0 - lb.getD k 0 - c) % 18446744073709551616), if o.getD k 0 < lb.getD k 0 + c then 1 else 0) ?_ ?_ (.cons rfl (.cons rfl (.cons rfl .nil))) ?_
      · first | omega | (simp; omega)
      · have ho1 : o.getD k 0 = la.getD k 0 := hrest k (Nat.le_refl _)
        have hga := getD_u hUo k
        have hgb := getD_u hUb k
        have h1 := Ma.vb_set 18446744073709551616 o k ((o.getD k 0 - lb.getD k 0 - c) % 18446744073709551616) (by omega)
        have h2 := Ma.vb_take_succ 18446744073709551616 la k
        have h3 := Ma.vb_take_succ 18446744073709551616 lb k
        have hb1 := bor_01 (x := o.getD k 0) (y := lb.getD k 0 + c)
        refine ⟨hw3, by omega, by simpa using hol, hUo.set (by omega) _, hb1.1, hb1.2, fun j hj => by rw [getD_set_ne _ (by omega)]; exact hrest j (by omega), ?_⟩
        show Ma.vb _ _ = Ma.vb _ _ - Ma.vb _ _ + _
        rw [h1, h2, h3, Int.pow_succ, ← ho1]
        exact diff_place hval (sub64_eq hga hgb ⟨hc1, hc2⟩)
      · exact (.cons rfl (by first | rfl | (refine congrArg (Value.int _) ?_; omega)) (.cons rfl (by first | rfl | (refine congrArg (Value.int _) ?_; omega)) .nil))
    · skip
      refine l_callp rfl rfl Try.func95 rfl rfl (.cons rfl (.cons rfl .nil)) (atN b lb hUb k w1.drew (hw2.ikM hb)) ?_
      refine l_nil ?_
      refine e_any (trivial) ?_
      refine a_one (L' := [true, true, true, true, true, true, true, true, true, true, false, false, false, false, false, false, false]) 5 (by kernel_rfl) rfl rfl ?_
      refine v_loadi rfl rfl Try.underlying22 rfl hv5 (by first | exact hw2.io mem0 | exact hw2.ikM hb | assumption) (by assumption) (by first | omega | (simp; done) | (simp; omega)) (fun hb5_5 => ?_)
      refine l_nil ?_
      refine e_any (trivial) ?_
      refine a_one (L' := [true, true, true, true, true, true, true, true, true, true, true, false, false, false, false, false, false]) 10 (by kernel_rfl) rfl rfl ?_
      refine l_extern rfl rfl Try.func94 rfl rfl rfl rfl (.cons rfl (.cons rfl (.cons rfl .nil))) (run_sub64i hga5 hgb5 ⟨hc1, hc2⟩ _) ?_
      refine l_nil ?_
      refine e_any (trivial) ?_
      apply a_take (L' := [true, true, true, true, true, true, true, true, true, true, true, true, false, false, false, false, false]) 11 rfl (by kernel_rfl) (by kernel_rfl) (by kernel_rfl) rfl rfl rfl rfl rfl (trivial)
      · intro wS sS
        refine l_move rfl rfl rfl ?_
        refine l_nil ?_
        exact e_got rfl
      apply a_take (L' := [true, true, true, true, true, true, true, true, true, true, true, true, true, false, false, false, false]) 12 rfl (by kernel_rfl) (by kernel_rfl) (by kernel_rfl) rfl rfl rfl rfl rfl (trivial)
      · intro wS sS
        refine l_extract rfl rfl rfl rfl ?_
        refine l_nil ?_
        exact e_got rfl
      apply a_take (L' := [true, true, true, true, true, true, true, true, true, true, true, true, true, true, false, false, false]) 13 rfl (by kernel_rfl) (by kernel_rfl) (by kernel_rfl) rfl rfl rfl rfl rfl (trivial)
      · intro wS sS
        refine l_extract rfl rfl rfl rfl ?_
        refine l_nil ?_
        exact e_got rfl
      apply a_take (L' := [true, true, true, true, true, true, true, true, true, true, true, true, true, true, true, false, false]) 14 rfl (by kernel_rfl) (by kernel_rfl) (by kernel_rfl) rfl rfl rfl rfl rfl (trivial)
      · intro wS sS
        refine v_addrx (j := k) rfl rfl Try.underlying66 tz22 rfl rfl hv5 (by first | rfl | omega) (by first | omega | (simp; done) | (simp; omega)) ?_
        refine l_nil ?_
        exact e_got rfl
      refine a_one (L' := [true, true, true, true, true, true, true, true, true, true, true, true, true, true, true, true, false]) 15 (by kernel_rfl) rfl rfl ?_
      refine v_storei hw2 .head hv5 rfl tz22 rfl rfl (by first | omega | (simp; done) | (simp; omega)) (fun w4 hw4 => ?_)
      try clear hw2
      refine l_nil ?_
      refine e_any (trivial) ?_
      apply a_take (L' := [true, true, true, true, true, true, true, true, true, true, true, true, true, true, true, true, true]) 16 rfl (by kernel_rfl) (by kernel_rfl) (by kernel_rfl) rfl rfl rfl rfl rfl (trivial)
      · intro wS sS
        refine l_assign rfl rfl rfl ?_
        refine l_nil ?_
        exact e_got rfl
      refine a_done (by kernel_rfl) ?_
      refine e_blk ?_
      refine e_then ?_
      refine c_keep [0, 1, 5, 8, 9] (.cons rfl (.cons rfl (.cons rfl (.cons rfl (.cons rfl .nil))))) ?_
      refine c_region ?_
      refine l_add rfl rfl rfl rfl (w_i64 (by omega)) ?_
      refine l_move rfl rfl rfl ?_
      refine l_nil ?_
      refine e_againk (i := (k, o, c)) (k + 1, o.set k ((o.getD k 0 - lb.getD k 0 - c) % 18446744073709551616), if o.getD k 0 < lb.getD k 0 + c then 1 else 0) ?_ ?_ (.cons rfl (.cons rfl (.cons rfl .nil))) ?_
      · first | omega | (simp; omega)
      · have ho1 : o.getD k 0 = la.getD k 0 := hrest k (Nat.le_refl _)
        have hga := getD_u hUo k
        have hgb := getD_u hUb k
        have h1 := Ma.vb_set 18446744073709551616 o k ((o.getD k 0 - lb.getD k 0 - c) % 18446744073709551616) (by omega)
        have h2 := Ma.vb_take_succ 18446744073709551616 la k
        have h3 := Ma.vb_take_succ 18446744073709551616 lb k
        have hb1 := bor_01 (x := o.getD k 0) (y := lb.getD k 0 + c)
        refine ⟨hw4, by omega, by simpa using hol, hUo.set (by omega) _, hb1.1, hb1.2, fun j hj => by rw [getD_set_ne _ (by omega)]; exact hrest j (by omega), ?_⟩
        show Ma.vb _ _ = Ma.vb _ _ - Ma.vb _ _ + _
        rw [h1, h2, h3, Int.pow_succ, ← ho1]
        exact diff_place hval (sub64_eq hga hgb ⟨hc1, hc2⟩)
      · exact (.cons rfl (by first | rfl | (refine congrArg (Value.int _) ?_; omega)) (.cons rfl (by first | rfl | (refine congrArg (Value.int _) ?_; omega)) .nil))
  · skip
    refine c_exit ?_
    refine e_then_exit ?_
    refine e_then_exit ?_
    refine e_blk_exit ?_
    refine e_then ?_
    refine c_keep [5] (.cons rfl .nil) ?_
    refine c_seq ?_
    refine c_region ?_
    refine l_move rfl rfl rfl ?_
    refine l_assign rfl rfl rfl ?_
    refine l_nil ?_
    refine e_then ?_
    refine c_keep [4] (.cons rfl .nil) ?_
    refine c_ret ?_
    refine e_done1 Try.results96 rfl ?_
    refine ⟨_, rfl, ?_⟩
    obtain rfl : k = la.length := by omega
    rw [List.take_of_length_le (by omega), List.take_length] at hval
    exact ⟨o, c, rfl, hUo, hol, hc1, hc2, hval, hw1.turns (fun k hk => .inl hk)⟩
theorem subN (a b : Value) (la lb : List Int) (hUa : U la) (hUb : U lb) (hLa : la.length ≤ 1099511627776) (hLb : lb.length ≤ 1099511627776) (w : World) (ha : IV w a (ints .u64 la)) (hb : IV w b (ints .u64 lb)) :
    CallsV P 91 [a, b] w fun r w' => SubR w w' r (nv la) (nv lb) := by
  refine enterW Try.func91 rfl Try.ntmps91 rfl ?_
  have hw0 := St.start w
  obtain ⟨A, ca, rfl, hca, hsa⟩ := ha
  have ha : IV w (.slice A (ints .u64 la).length ca) (ints .u64 la) := ⟨A, ca, rfl, hca, hsa⟩
  obtain ⟨A2, cb, rfl, hcb, hsb⟩ := hb
  have hb : IV w (.slice A2 (ints .u64 lb).length cb) (ints .u64 lb) := ⟨A2, cb, rfl, hcb, hsb⟩
  have hva := trim_iv ha
  have hvb := trim_iv hb
  have hta : (Ma.tr la).length ≤ la.length := (Ma.tr_take la).2.1
  have htb : (Ma.tr lb).length ≤ lb.length := (Ma.tr_take lb).2.1
  have hUa2 := hUa.tr
  have hUb2 := hUb.tr
  clear hsa hsb
  have cna : Ma.Cn 18446744073709551616 (Ma.tr la) (nv la) := Ma.Cn.of_tr hUa.dg rfl
  have cnb : Ma.Cn 18446744073709551616 (Ma.tr lb) (nv lb) := Ma.Cn.of_tr hUb.dg rfl
  refine c_seq ?_
  refine c_region ?_
  refine l_assign rfl rfl rfl ?_
  refine l_assign rfl rfl rfl ?_
  refine l_nil ?_
  refine e_then ?_
  refine c_keep [0, 1] (.cons rfl (.cons rfl .nil)) ?_
  refine c_seq ?_
  refine c_seq ?_
  refine c_region ?_
  refine l_move rfl rfl rfl ?_
  refine l_move rfl rfl rfl ?_
  refine l_call rfl rfl Try.func60 rfl rfl (.cons rfl (.cons rfl .nil)) (cmpN _ _ la lb hUa hUb hLa hLb w (hw0.iarg ha) (hw0.iarg hb)) ?_
  rintro _ w1 ⟨rfl, hG⟩
  have hw1 := hG _ _ _ _ hw0
  try clear hG hw0
  simp only [List.cons_append, List.nil_append] at hw1
  refine l_lss rfl rfl rfl rfl ?_
  refine l_nil ?_
  refine e_then ?_
  refine c_keep [0, 1, 10] (.cons rfl (.cons rfl (.cons rfl .nil))) ?_
  first | refine c_cond rfl (fun hc0 => ?_) (fun hc0 => ?_) | refine c_condb rfl (fun hc0 => ?_) (fun hc0 => ?_)
  · skip
    refine c_seq ?_
    refine c_region ?_
    refine l_assign rfl rfl rfl ?_
    refine l_assign rfl rfl rfl ?_
    refine l_nil ?_
    refine e_then ?_
    refine c_keep [4, 5] (.cons rfl (.cons rfl .nil)) ?_
    refine c_ret ?_
    refine e_then_ret ?_
    refine e_done2 Try.results91 rfl rfl ?_
    refine ⟨_, rfl, ?_⟩
    have hlt : nv la < nv lb := cmpI_neg.1 hc0
    exact ⟨_, [], by rw [decide_eq_false (by omega)], by rw [if_neg (by omega)]; exact Ma.Cn.nil, (hw1.nil 22).grows⟩
  · skip
    refine c_skip ?_
    refine e_then ?_
    refine c_keep [0, 1] (.cons rfl (.cons rfl .nil)) ?_
    refine c_seq ?_
    refine c_region ?_
    refine l_move rfl rfl rfl ?_
    refine l_call rfl rfl Try.func69 rfl rfl (.cons rfl .nil) (cloneN _ la hUa (by omega) w1 (hw1.iarg ha)) ?_
    rintro vo w2 ⟨_, rfl, hG⟩
    have hw2 := hG _ _ _ _ hw1
    try clear hG hw1
    simp only [List.cons_append, List.nil_append] at hw2
    refine l_assign rfl rfl rfl ?_
    refine l_nil ?_
    refine e_then ?_
    refine c_keep [1, 6] (.cons rfl (.cons rfl .nil)) ?_
    refine c_seq ?_
    refine c_region ?_
    refine l_move rfl rfl rfl ?_
    refine l_move rfl rfl rfl ?_
    refine l_callp rfl rfl Try.func71 rfl rfl (.cons rfl .nil) (trim A2 cb lb hUb (by omega) w2 (hw2.iarg hb)) ?_
    refine l_call rfl rfl Try.func96 rfl rfl (.cons rfl (.cons rfl .nil)) (lessN vo _ (Ma.tr la) (Ma.tr lb) hUa2 hUb2 (by omega) (by omega) w2 (hw2.ok mem0) (hw2.rowlt mem0) (hw2.keepsArg mem0 hvb)) ?_
    rintro _ w3 ⟨lo, c, rfl, hUo, hlo, hc1, hc2, hvo, hT⟩
    have hw3 := hT _ _ _ _ _ .head hw2
    try clear hT hw2
    refine l_nil ?_
    refine e_then ?_
    refine c_keep [6] (.cons rfl .nil) ?_
    refine c_seq ?_
    refine c_region ?_
    refine l_move rfl rfl rfl ?_
    refine l_call rfl rfl Try.func71 rfl rfl (.cons rfl .nil) (trim_turn hUo (by omega) (hw3.io mem0)) ?_
    rintro vt w4 ⟨_, rfl, hT⟩
    have hw4 := hT _ _ _ _ _ .head hw3
    try clear hT hw3
    refine l_assign rfl rfl rfl ?_
    refine l_assign rfl rfl rfl ?_
    refine l_nil ?_
    refine e_then ?_
    refine c_keep [4, 5] (.cons rfl (.cons rfl .nil)) ?_
    refine c_ret ?_
    refine e_done2 Try.results91 rfl rfl ?_
    refine ⟨_, rfl, ?_⟩
    have hge : nv lb ≤ nv la := by
      rcases Int.lt_or_le (nv la) (nv lb) with h | h
      · exact absurd (cmpI_neg.2 h) hc0
      · exact h
    have hll : (Ma.tr lb).length ≤ (Ma.tr la).length := by
      rcases Nat.lt_or_ge (Ma.tr la).length (Ma.tr lb).length with h | h
      · have := cna.lt_of_len (show (1 : Int) < 18446744073709551616 by omega) cnb h
        have h2 : nv la < nv lb := this
        omega
      · exact h
    rw [List.take_of_length_le hll, nv_tr, nv_tr] at hvo
    have hlt : nv lo < 18446744073709551616 ^ lo.length := Ma.vb_lt (show (0 : Int) < 18446744073709551616 by omega) hUo.dg
    rw [hlo] at hlt
    have hcz : c = 0 := by
      have h01 : c = 0 ∨ c = 1 := by omega
      rcases h01 with h | h
      · exact h
      · rw [h] at hvo
        omega
    rw [hcz, Int.mul_zero, Int.add_zero] at hvo
    exact ⟨_, _, by rw [decide_eq_true hge], by rw [if_pos hge]; exact Ma.Cn.of_tr hUo.dg hvo, hw4.grows⟩
end Go.Proofs.Ytmcbdgpcbcldjaa.W
