/- walk of nat.Text -/
import Derived.Test.YtojjlipcjdaejaaDoorFg
set_option linter.unusedVariables false
set_option linter.unusedSimpArgs false
set_option maxRecDepth 10000
namespace Go.Proofs.YtojjlipcjdaejaaDoor.W
open Go.Vc Go.RowKit
theorem trim_turn {v : Value} {l : List Int} (hU : U l) (hL : l.length ≤ 17592186044416) {w : World} (hv : IV w v (ints .u64 l)) : CallsV P 59 [v] w fun r w' => ∃ v', r = v' ∧ Turn w w' (As.ri 22 .u64 v l) (As.ri 22 .u64 v' (Ma.tr l)) := by
 obtain ⟨A, c, rfl, hc, hs⟩ := hv
 refine (trim A c l hU hL w ⟨A, c, rfl, hc, hs⟩).mono ?_
 rintro r _ ⟨rfl, rfl⟩
 exact ⟨_, rfl, fun w0 B M σ σ' u hw => trim_st u hw⟩
theorem nv_blen {l : List Int} (h : U l) : Ma.blen (nv l) ≤ 64 * l.length := by
 have h1 : nv l < _ := Ma.vb_lt (show (0 : Int) < 18446744073709551616 by omega) h.dg
 rw [show (18446744073709551616 : Int) = 2 ^ 64 from rfl, ← Int.pow_mul] at h1
 have := (Ma.blen_le_iff h.nv_nonneg (64 * l.length)).2 h1
 omega
theorem dt0_piece {M r : Int} {i : Nat} (hi : i < 19) (hM : 0 ≤ M) (hr : 0 ≤ r) (h : 0 < M ∨ 0 < r) : dt0 (M * 10 ^ (19 - i) + r).toNat = dt0 (M * 10 ^ (19 - (i + 1)) + r / 10).toNat ++ [dig (r % 10)] := by
 have hp := Ma.pow_pos (show (0 : Int) < 10 by omega) (19 - (i + 1))
 have e : M * 10 ^ (19 - i) = M * 10 ^ (19 - (i + 1)) * 10 := by rw [show 19 - i = 19 - (i + 1) + 1 from by omega, Int.pow_succ, Int.mul_assoc]
 have hmp := Int.mul_nonneg hM (Int.le_of_lt hp)
 have hpos : 0 < M * 10 ^ (19 - i) + r := by
  rcases h with h | h
  ·have := Int.mul_pos h hp
   omega
  ·omega
 rw [dt0_pos hpos, e]
 congr 1
 ·congr 2; omega
 ·congr 2; omega
theorem getD_set {α : Type} (l : List α) (i k : Nat) (x d : α) (h : i < l.length) : (l.set i x).getD k d = if i = k then x else l.getD k d := by
 by_cases e : i = k
 ·subst e; simp [List.getD, h]
 ·simp [List.getD, List.getElem?_set_ne e, e]
theorem rev_of {l o : List UInt8} (hl : o.length = l.length) (h : ∀ k, k < l.length → o.getD k 0 = l.getD (l.length - 1 - k) 0) : o = l.reverse := by
 refine List.ext_getElem (by simp [hl]) fun k h1 h2 => ?_
 have := h k (by omega)
 have e1 : o.getD k 0 = o[k] := by simp [List.getD, h1]
 have e2 : l.getD (l.length - 1 - k) 0 = l[l.length - 1 - k]'(by omega) := by simp [List.getD, show l.length - 1 - k < l.length by omega]
 rw [List.getElem_reverse, ← e1, this, e2]
theorem textN (v : Value) (l : List Int) (hU : U l) (hL : l.length ≤ 65536) (w : World) (hv : IV w v (ints .u64 l)) :
  CallsV P 41 [v] w fun r w' => r = str (dtx (nv l)) ∧ Grow w w' [] := by
 refine enterW Tryd.func41 rfl Tryd.ntmps41 rfl ?_
 have hw0 := St.start w
 have hlen := dt0_len _ (nv l) hU.nv_nonneg (Nat.le_refl _)
 have hlen2 := nv_blen hU
 have hcn0 : Ma.Cn 18446744073709551616 (Ma.tr l) (nv l) := Ma.Cn.of_tr hU.dg rfl
 have htl : (Ma.tr l).length ≤ l.length := (Ma.tr_take l).2.1
 refine c_seq (c_region (l_assign rfl rfl rfl (l_nil (e_then ?_))))
 refine c_keep [0] (.cons rfl .nil) ?_
 refine c_seq (c_region (l_move rfl rfl rfl ?_))
 refine l_call rfl rfl Tryd.func63 rfl rfl (.cons rfl .nil) (cloneN v l hU (by omega) w (hw0.iarg hv)) ?_
 rintro vl0 w1 ⟨_, rfl, hG⟩
 have hw1 := hG _ _ _ _ hw0
 try clear hG hw0
 simp only [List.cons_append, List.nil_append] at hw1
 refine l_assign rfl rfl rfl (l_nil (e_then ?_))
 refine c_keep [3] (.cons rfl .nil) ?_
 refine c_seq (c_seq (c_region (l_move rfl rfl rfl ?_)))
 refine v_leni rfl rfl Tryd.underlying62 rfl (by first | exact hw1.io mem0 | exact hw1.iarg hv | assumption) ?_
 refine l_eql rfl rfl rfl rfl ?_
 refine l_nil (e_then ?_)
 refine c_keep [3, 14] (.cons rfl (.cons rfl .nil)) ?_
 first | refine c_cond rfl (fun hc0 => ?_) (fun hc0 => ?_) | refine c_condb rfl (fun hc0 => ?_) (fun hc0 => ?_)
 ·skip
  refine c_seq (c_region (l_assign rfl rfl rfl (l_nil (e_then ?_))))
  refine c_keep [2] (.cons rfl .nil) ?_
  refine c_ret ?_
  refine e_then_ret ?_
  refine e_done1 Tryd.results41 rfl ?_
  refine ⟨_, rfl, ?_⟩
  have hw2 := St.del .head hw1
  try clear hw1
  have h0 : nv l = 0 := (hcn0.nil_iff (by omega)).1 (List.eq_nil_of_length_eq_zero (by omega))
  exact ⟨by unfold dtx; rw [if_pos h0], hw2.grows⟩
 ·skip
  refine c_skip (e_then ?_)
  refine c_keep [3] (.cons rfl .nil) ?_
  refine c_seq (c_region (l_assign rfl rfl rfl (l_nil (e_then (c_seq ?_)))))
  refine c_block ?_
  refine c_loopk (ι := Int × List Int × Value × List UInt8 × Value) (fun (z0 : Int × List Int × Value × List UInt8 × Value) => match z0 with | ⟨m, lm, vl, bk, vb⟩ => m.toNat) (fun (z0 : Int × List Int × Value × List UInt8 × Value) (w' : World) => match z0 with | ⟨m, lm, vl, bk, vb⟩ => St w w.heap.size None' ([As.rb 5 vb bk, As.ri 22 .u64 vl lm]) w' ∧ Ma.Cn 18446744073709551616 lm m ∧ lm.length ≤ 65536 ∧ 0 ≤ m ∧ dt0 (nv l).toNat = dt0 m.toNat ++ bk.reverse) (fun (z0 : Int × List Int × Value × List UInt8 × Value) => match z0 with | ⟨m, lm, vl, bk, vb⟩ => [(3, vl), (4, vb)]) [] (nv l, Ma.tr l, vl0, [], .slice none 0 0) ?_ .nil ?_ ?_
  ·exact ⟨hw1.nil 5, hcn0, by omega, hU.nv_nonneg, by simp⟩
  ·exact (.cons rfl (by first | rfl | (refine congrArg (Value.int _) ?_; omega)) (.cons rfl (by first | rfl | (refine congrArg (Value.int _) ?_; omega)) .nil))
  rintro ⟨m, lm, vl, bk, vb⟩ w3 ⟨hw3, hcn, hLm, hm0, hdt⟩
  show RunC P _ _ _ (_ :: _) _
  refine c_seq (c_seq (c_region (l_move rfl rfl rfl ?_)))
  refine v_leni rfl rfl Tryd.underlying62 rfl (by first | exact hw3.io mem0 | exact hw3.io mem1 | exact hw3.iarg hv | assumption) ?_
  refine l_gtr rfl rfl rfl rfl ?_
  refine l_nil (e_then ?_)
  refine c_keep [3, 4, 17] (.cons rfl (.cons rfl (.cons rfl .nil))) ?_
  first | refine c_cond rfl (fun hc1 => ?_) (fun hc1 => ?_) | refine c_condb rfl (fun hc1 => ?_) (fun hc1 => ?_)
  ·skip
   refine c_skip (e_then ?_)
   refine c_keep [3, 4] (.cons rfl (.cons rfl .nil)) ?_
   refine c_block (c_seq (c_region ?_))
   have hmp : 0 < m := by
    rcases Int.lt_or_eq_of_le hm0 with h | h
    ·exact h
    ·have := (hcn.nil_iff (by omega)).2 h.symm
     subst this
     simp at hc1
   refine l_assign rfl rfl rfl (l_nil (e_then (c_seq (c_seq (c_region ?_)))))
   refine l_move rfl rfl rfl ?_
   refine v_leni rfl rfl Tryd.underlying62 rfl (by first | exact hw3.io mem0 | exact hw3.io mem1 | exact hw3.iarg hv | assumption) ?_
   refine l_sub rfl rfl rfl rfl (w_i64 (by omega)) ?_
   refine l_assign rfl rfl rfl (l_nil (e_then ?_))
   refine c_keep [3, 4, 5, 6] (.cons rfl (.cons rfl (.cons rfl (.cons rfl .nil)))) ?_
   refine c_block ?_
   refine c_loopk (ι := Nat × List Int × Int) (fun (z0 : Nat × List Int × Int) => match z0 with | ⟨k, o, q⟩ => k) (fun (z0 : Nat × List Int × Int) (w' : World) => match z0 with | ⟨k, o, q⟩ => St w w.heap.size None' ([As.rb 5 vb bk, As.ri 22 .u64 vl o]) w' ∧ k ≤ lm.length ∧ o.length = lm.length ∧ U o ∧ 0 ≤ q ∧ q < 10000000000000000000 ∧ (∀ j, j < k → o.getD j 0 = lm.getD j 0) ∧ nv (o.drop k) * 10000000000000000000 + q = nv (lm.drop k)) (fun (z0 : Nat × List Int × Int) => match z0 with | ⟨k, o, q⟩ => [(5, .int .u64 q), (6, .int .i64 ((k : Int) - 1))]) [3, 4] (lm.length, lm, 0) ?_ (.cons rfl (.cons rfl .nil)) ?_ ?_
   ·exact ⟨hw3, Nat.le_refl _, rfl, U.of_dg hcn.dg, by omega, by omega, fun _ _ => rfl, by rw [List.drop_length]; simp [Ma.vb]⟩
   ·exact (.cons rfl (by first | rfl | (refine congrArg (Value.int _) ?_; omega)) (.cons rfl (by first | rfl | (refine congrArg (Value.int _) ?_; omega)) .nil))
   rintro ⟨k, o, q⟩ w4 ⟨hw4, hk, hol, hUo, hq0, hq1, hlow, hval⟩
   show RunC P _ _ _ (_ :: _) _
   refine c_seq (c_seq (c_region (l_move rfl rfl rfl ?_)))
   refine l_geq rfl rfl rfl rfl ?_
   refine l_nil (e_then ?_)
   refine c_keep [3, 4, 5, 6, 22] (.cons rfl (.cons rfl (.cons rfl (.cons rfl (.cons rfl .nil))))) ?_
   first | refine c_cond rfl (fun hc2 => ?_) (fun hc2 => ?_) | refine c_condb rfl (fun hc2 => ?_) (fun hc2 => ?_)
   ·skip
    refine c_skip (e_then ?_)
    refine c_keep [3, 4, 5, 6] (.cons rfl (.cons rfl (.cons rfl (.cons rfl .nil)))) ?_
    refine c_seq (c_block (c_region ?_))
    have hlk := hlow (k - 1)
    refine l_move rfl rfl rfl (l_move rfl rfl rfl (l_move rfl rfl rfl (l_move rfl rfl rfl (l_move rfl rfl rfl ?_))))
    refine v_getr (j := k - 1) rfl rfl rfl rfl Tryd.underlying62 tz22 Tryd.underlying22 rfl rfl (by first | exact hw4.io mem0 | exact hw4.io mem1 | exact hw4.iarg hv | assumption) (by assumption) rfl (by omega) (by first | omega | (simp; done) | (simp; omega)) (fun hb10_5 => ?_)
    refine l_call rfl rfl Tryd.func64 rfl rfl (.cons rfl (.cons rfl (.cons rfl .nil))) (div64 _ _ _ ⟨hq0, hq1⟩ (by assumption) (by omega) w4) ?_
    rintro _ w5 ⟨rfl, hG⟩
    have hw5 := hG _ _ _ _ hw4
    try clear hG hw4
    simp only [List.cons_append, List.nil_append] at hw5
    refine l_move rfl rfl rfl (l_extract rfl rfl rfl rfl (l_extract rfl rfl rfl rfl ?_))
    refine v_addrn (j := k - 1) rfl rfl Tryd.underlying62 tz22 rfl rfl (by first | exact hw5.io mem0 | exact hw5.io mem1 | exact hw5.iarg hv | assumption) (by omega) (by first | omega | (simp; done) | (simp; omega)) (fun A10_11 c10_11 hA10_11 => ?_)
    refine v_storei hw5 (.tail .head) hA10_11 rfl tz22 rfl rfl (by first | omega | (simp; done) | (simp; omega)) (fun w6 hw6 => ?_)
    try clear hw5
    refine l_assign rfl rfl rfl (l_nil ?_)
    refine e_blk ?_
    refine e_then ?_
    refine c_keep [3, 4, 5, 6] (.cons rfl (.cons rfl (.cons rfl (.cons rfl .nil)))) ?_
    refine c_region (l_move rfl rfl rfl ?_)
    refine l_sub rfl rfl rfl rfl (w_i64 (by omega)) ?_
    refine l_assign rfl rfl rfl (l_nil ?_)
    refine e_againk (i := (k, o, q)) (k - 1, o.set (k - 1) ((q * 18446744073709551616 + o.getD (k - 1) 0) / 10000000000000000000), (q * 18446744073709551616 + o.getD (k - 1) 0) % 10000000000000000000) ?_ ?_ (.cons rfl (.cons rfl .nil)) ?_
    ·first | omega | (simp; omega)
    ·refine ⟨hw6, by omega, by simpa using hol, hUo.set (by omega) _, by omega, by omega, fun j hj => by rw [getD_set_ne _ (by omega)]; exact hlow j (by omega), ?_⟩
     have h1 := Ma.vb_drop 18446744073709551616 (l := lm) (k := k - 1) (by omega)
     have h2 := Ma.vb_drop 18446744073709551616 (l := o.set (k - 1) ((q * 18446744073709551616 + o.getD (k - 1) 0) / 10000000000000000000)) (k := k - 1) (by simp; omega)
     rw [show k - 1 + 1 = k from by omega] at h1 h2
     have hds : (o.set (k - 1) ((q * 18446744073709551616 + o.getD (k - 1) 0) / 10000000000000000000)).drop k = o.drop k := List.drop_set_of_lt (by omega)
     rw [hds, getD_set _ _ _ _ _ (by omega), if_pos rfl] at h2
     show Ma.vb _ _ * _ + _ = Ma.vb _ _
     rw [h1, h2, ← hlow (k - 1) (by omega)]
     exact Ma.quo_step (by omega) (by omega) hval
    ·exact (.cons rfl (by first | rfl | (refine congrArg (Value.int _) ?_; omega)) (.cons rfl (by first | rfl | (refine congrArg (Value.int _) ?_; omega)) .nil))
   ·skip
    refine c_exit ?_
    refine e_then_exit ?_
    refine e_then_exit ?_
    refine e_blk_exit ?_
    refine e_then ?_
    refine c_keep [3, 4, 5] (.cons rfl (.cons rfl (.cons rfl .nil))) ?_
    refine c_seq (c_region ?_)
    obtain rfl : k = 0 := by omega
    simp only [List.drop_zero] at hval
    have hd := div_of (n := m) (y := 10000000000000000000) (Q := nv o) (r := q) (by rw [hval]; exact hcn.val.symm) hq0 hq1
    have hcn2 : Ma.Cn 18446744073709551616 (Ma.tr o) (m / 10000000000000000000) := by rw [hd.1]; exact Ma.Cn.of_tr hUo.dg rfl
    have hto : (Ma.tr o).length ≤ o.length := (Ma.tr_take o).2.1
    refine l_move rfl rfl rfl ?_
    refine l_call rfl rfl Tryd.func59 rfl rfl (.cons rfl .nil) (trim_turn hUo (by omega) (hw4.io mem1)) ?_
    rintro vl2 w7 ⟨_, rfl, hT⟩
    have hw7 := hT _ _ _ _ _ (.tail .head) hw4
    try clear hT hw4
    refine l_assign rfl rfl rfl (l_nil (e_then ?_))
    refine c_keep [3, 4, 5] (.cons rfl (.cons rfl (.cons rfl .nil))) ?_
    refine c_seq (c_region (l_assign rfl rfl rfl (l_nil (e_then (c_block ?_)))))
    refine c_loopk (ι := Nat × Int × List UInt8 × Value) (fun (z0 : Nat × Int × List UInt8 × Value) => match z0 with | ⟨i, rr, bk2, vb2⟩ => 19 - i) (fun (z0 : Nat × Int × List UInt8 × Value) (w' : World) => match z0 with | ⟨i, rr, bk2, vb2⟩ => St w w.heap.size None' ([As.rb 5 vb2 bk2, As.ri 22 .u64 vl2 (Ma.tr o)]) w' ∧ i ≤ 19 ∧ 0 ≤ rr ∧ rr < 10 ^ (19 - i) ∧ rr < 10000000000000000000 ∧ dt0 (nv l).toNat = dt0 (m / 10000000000000000000 * 10 ^ (19 - i) + rr).toNat ++ bk2.reverse) (fun (z0 : Nat × Int × List UInt8 × Value) => match z0 with | ⟨i, rr, bk2, vb2⟩ => [(4, vb2), (5, .int .u64 rr), (7, .int .i64 (i : Int))]) [3] (0, q, bk, vb) ?_ (.cons rfl .nil) ?_ ?_
    ·refine ⟨hw7, by omega, hq0, by rw [Nat.sub_zero, ten19]; exact hq1, hq1, ?_⟩
     rw [hdt, Nat.sub_zero, ten19, show m / 10000000000000000000 * 10000000000000000000 + q = m from by omega]
    ·exact (.cons rfl (by first | rfl | (refine congrArg (Value.int _) ?_; omega)) (.cons rfl (by first | rfl | (refine congrArg (Value.int _) ?_; omega)) (.cons rfl (by first | rfl | (refine congrArg (Value.int _) ?_; omega)) .nil)))
    rintro ⟨i, rr, bk2, vb2⟩ w8 ⟨hw8, hi, hr0, hr1, hr2, hdt2⟩
    show RunC P _ _ _ (_ :: _) _
    refine c_seq (c_seq (c_region (l_move rfl rfl rfl ?_)))
    refine l_lss rfl rfl rfl rfl ?_
    refine l_move rfl rfl rfl ?_
    apply l_and 7 [3, 4, 5, 7] rfl rfl (.cons rfl (.cons rfl (.cons rfl (.cons rfl (.cons rfl .nil))))) rfl rfl (fun _ => rfl) rfl rfl rfl
    ·intro hg13_3
     refine l_move rfl rfl rfl ?_
     refine v_leni rfl rfl Tryd.underlying62 rfl (by first | exact hw8.io mem0 | exact hw8.io mem1 | exact hw8.iarg hv | assumption) ?_
     refine l_gtr rfl rfl rfl rfl ?_
     refine l_move rfl rfl rfl ?_
     apply l_or 2 [3, 4, 5, 7, 41] rfl rfl (.cons rfl (.cons rfl (.cons rfl (.cons rfl (.cons rfl (.cons rfl .nil)))))) rfl rfl (fun _ => rfl) rfl rfl rfl
     ·intro hg13_7
      refine l_move rfl rfl rfl ?_
      refine l_gtr rfl rfl rfl rfl ?_
      refine l_nil ?_
      exact e_stays rfl (.cons rfl (congrArg Value.bool (decide_eq_false hg13_7).symm) (.cons rfl rfl (.cons rfl rfl (.cons rfl rfl (.cons rfl rfl (.cons rfl rfl .nil))))))
     refine l_nil ?_
     exact e_stays rfl (.cons rfl (congrArg Value.bool (decide_eq_true hg13_3).symm) (.cons rfl rfl (.cons rfl rfl (.cons rfl rfl (.cons rfl rfl .nil)))))
    refine l_nil (e_then ?_)
    refine c_keep [3, 4, 5, 7, 49] (.cons rfl (.cons rfl (.cons rfl (.cons rfl (.cons rfl .nil))))) ?_
    first | refine c_cond rfl (fun hc3 => ?_) (fun hc3 => ?_) | refine c_condb rfl (fun hc3 => ?_) (fun hc3 => ?_)
    ·skip
     refine c_skip (e_then ?_)
     refine c_keep [3, 4, 5, 7] (.cons rfl (.cons rfl (.cons rfl (.cons rfl .nil)))) ?_
     refine c_seq (c_block (c_seq (c_region ?_)))
     have hpos : 0 < m / 10000000000000000000 ∨ 0 < rr := by
      rcases hc3.2 with h | h
      ·refine .inl ?_
       rcases Int.lt_or_le 0 (m / 10000000000000000000) with h' | h'
       ·exact h'
       ·have := (hcn2.nil_iff (by omega)).2 (by omega)
        rw [this] at h
        simp at h
      ·exact .inr h
     have hbl := congrArg List.length hdt2
     rw [List.length_append, List.length_reverse] at hbl
     refine l_move rfl rfl rfl (l_move rfl rfl rfl ?_)
     refine l_rem rfl rfl rfl rfl (by omega) (r_pos (by omega)) ?_
     refine l_add rfl rfl rfl rfl (w_u64 (by omega)) ?_
     refine l_conv rfl rfl Tryd.underlying22 Tryd.underlying5 rfl (w_u8 (by omega)) ?_
     refine l_turn (s := 56) (v' := .int .u8 ((dig (rr % 10)).toNat : Int)) rfl (by rw [dig_toNat (by omega)]) ?_
     refine v_lit hw8 rfl rfl Tryd.underlying25 ti5 rfl (.cons rfl (by first | rfl | assumption) .nil) rfl rfl rfl (fun b15_5 w9 hw9 => ?_)
     try clear hw8
     refine v_push hw9 rfl rfl Tryd.underlying25 ti5 rfl rfl rfl rfl (by first | (simp [Value.oneCell']; done) | (intro u hu; rw [List.mem_singleton.1 hu]; assumption)) (by first | (simp; done) | (simp; omega)) (by first | (simp; done) | (simp; omega)) (fun v15_6 w10 hw10 => ?_)
     try clear hw9
     refine l_assign rfl rfl rfl (l_nil (e_then ?_))
     refine c_keep [3, 4, 5, 7] (.cons rfl (.cons rfl (.cons rfl (.cons rfl .nil)))) ?_
     refine c_region (l_move rfl rfl rfl ?_)
     refine l_quo rfl rfl rfl rfl (by omega) (q_u64 (by omega)) ?_
     refine l_assign rfl rfl rfl (l_nil ?_)
     refine e_blk ?_
     refine e_then ?_
     refine c_keep [3, 4, 5, 7] (.cons rfl (.cons rfl (.cons rfl (.cons rfl .nil)))) ?_
     refine c_region (l_move rfl rfl rfl ?_)
     refine l_add rfl rfl rfl rfl (w_i64 (by omega)) ?_
     refine l_assign rfl rfl rfl (l_nil ?_)
     refine e_againk (i := (i, rr, bk2, vb2)) (i + 1, rr / 10, bk2 ++ [dig (rr % 10)], v15_6) ?_ ?_ (.cons rfl .nil) ?_
     ·first | omega | (simp; omega)
     ·refine ⟨hw10.cast (by rw [bys_snoc]), by omega, by omega, ?_, by omega, ?_⟩
      ·rw [show 19 - i = 19 - (i + 1) + 1 from by omega, Int.pow_succ] at hr1
       omega
      ·rw [hdt2, dt0_piece (by omega) (by omega) hr0 hpos]
       simp
     ·exact (.cons rfl (by first | rfl | (refine congrArg (Value.int _) ?_; omega)) (.cons rfl (by first | rfl | (refine congrArg (Value.int _) ?_; omega)) (.cons rfl (by first | rfl | (refine congrArg (Value.int _) ?_; omega)) .nil)))
    ·skip
     refine c_exit ?_
     refine e_then_exit ?_
     refine e_then_exit ?_
     refine e_blk_exit ?_
     refine e_blk ?_
     refine e_againk (i := (m, lm, vl, bk, vb)) (m / 10000000000000000000, Ma.tr o, vl2, bk2, vb2) ?_ ?_ .nil ?_
     ·first | omega | (simp; omega)
     ·refine ⟨hw8, hcn2, by omega, by omega, ?_⟩
      rcases Nat.lt_or_ge i 19 with h | h
      ·have hz : (Ma.tr o).length = 0 := by omega
       have hM0 : m / 10000000000000000000 = 0 := (hcn2.nil_iff (by omega)).1 (List.eq_nil_of_length_eq_zero hz)
       rw [hdt2, hM0, show rr = 0 from by omega]
       simp
      ·obtain rfl : i = 19 := by omega
       have hr0 : rr = 0 := by
        have : (10 : Int) ^ (19 - 19) = 1 := rfl
        omega
       rw [hdt2, hr0]
       simp
     ·exact (.cons rfl (by first | rfl | (refine congrArg (Value.int _) ?_; omega)) (.cons rfl (by first | rfl | (refine congrArg (Value.int _) ?_; omega)) .nil))
  ·skip
   refine c_exit ?_
   refine e_then_exit ?_
   refine e_then_exit ?_
   refine e_blk_exit ?_
   refine e_then ?_
   refine c_keep [4] (.cons rfl .nil) ?_
   refine c_seq (c_seq (c_region ?_))
   have hbl := congrArg List.length hdt
   rw [List.length_append, List.length_reverse] at hbl
   refine l_move rfl rfl rfl ?_
   refine v_lenb rfl rfl Tryd.underlying25 rfl (by first | exact hw3.io mem0 | exact hw3.io mem1 | exact hw3.iarg hv | assumption) ?_
   refine l_sub rfl rfl rfl rfl (w_i64 (by omega)) ?_
   refine l_assign rfl rfl rfl (l_assign rfl rfl rfl (l_nil (e_then ?_)))
   refine c_keep [4, 8, 9] (.cons rfl (.cons rfl (.cons rfl .nil))) ?_
   refine c_block ?_
   refine c_loopk (ι := Nat × List UInt8) (fun (z0 : Nat × List UInt8) => match z0 with | ⟨i, o⟩ => bk.length - i) (fun (z0 : Nat × List UInt8) (w' : World) => match z0 with | ⟨i, o⟩ => St w w.heap.size None' ([As.rb 5 vb o, As.ri 22 .u64 vl lm]) w' ∧ 2 * i ≤ bk.length ∧ o.length = bk.length ∧ ∀ k, k < bk.length → o.getD k 0 = if k < i ∨ bk.length - i ≤ k then bk.getD (bk.length - 1 - k) 0 else bk.getD k 0) (fun (z0 : Nat × List UInt8) => match z0 with | ⟨i, o⟩ => [(8, .int .i64 (i : Int)), (9, .int .i64 ((bk.length : Int) - 1 - i))]) [4] (0, bk) ?_ (.cons rfl .nil) ?_ ?_
   ·refine ⟨hw3, by omega, rfl, fun k hk => by rw [if_neg (by omega)]⟩
   ·exact (.cons rfl (by first | rfl | (refine congrArg (Value.int _) ?_; omega)) (.cons rfl (by first | rfl | (refine congrArg (Value.int _) ?_; omega)) .nil))
   rintro ⟨i, o⟩ w11 ⟨hw11, hi, hol, hrev⟩
   show RunC P _ _ _ (_ :: _) _
   refine c_seq (c_seq (c_region (l_move rfl rfl rfl (l_move rfl rfl rfl ?_))))
   refine l_lss rfl rfl rfl rfl ?_
   refine l_nil (e_then ?_)
   refine c_keep [4, 8, 9, 66] (.cons rfl (.cons rfl (.cons rfl (.cons rfl .nil)))) ?_
   first | refine c_cond rfl (fun hc4 => ?_) (fun hc4 => ?_) | refine c_condb rfl (fun hc4 => ?_) (fun hc4 => ?_)
   ·skip
    refine c_skip (e_then ?_)
    refine c_keep [4, 8, 9] (.cons rfl (.cons rfl (.cons rfl .nil))) ?_
    refine c_seq (c_block ?_)
    have hw12 := hw11.drewn
    try clear hw11
    obtain ⟨A20, c20, hv20⟩ := (hw12.io mem0).lies (by simp; omega)
    refine c_any (n := 16) [false, false, false, false, false, false, false, false, false, false, false, false, false, false, false, false] (fun wS => True) (by kernel_rfl) rfl rfl ?_
    apply a_take (L' := [true, false, false, false, false, false, false, false, false, false, false, false, false, false, false, false]) 0 rfl (by kernel_rfl) (by kernel_rfl) (by kernel_rfl) rfl rfl rfl rfl rfl (trivial)
    ·intro wS sS
     refine l_move rfl rfl rfl (l_nil ?_)
     exact e_got rfl
    apply a_take (L' := [true, true, false, false, false, false, false, false, false, false, false, false, false, false, false, false]) 1 rfl (by kernel_rfl) (by kernel_rfl) (by kernel_rfl) rfl rfl rfl rfl rfl (trivial)
    ·intro wS sS
     refine l_move rfl rfl rfl (l_nil ?_)
     exact e_got rfl
    apply a_take (L' := [true, true, true, false, false, false, false, false, false, false, false, false, false, false, false, false]) 2 rfl (by kernel_rfl) (by kernel_rfl) (by kernel_rfl) rfl rfl rfl rfl rfl (trivial)
    ·intro wS sS
     refine l_move rfl rfl rfl (l_nil ?_)
     exact e_got rfl
    apply a_take (L' := [true, true, true, true, false, false, false, false, false, false, false, false, false, false, false, false]) 3 rfl (by kernel_rfl) (by kernel_rfl) (by kernel_rfl) rfl rfl rfl rfl rfl (trivial)
    ·intro wS sS
     refine l_move rfl rfl rfl (l_nil ?_)
     exact e_got rfl
    apply a_take (L' := [true, true, true, true, true, false, false, false, false, false, false, false, false, false, false, false]) 4 rfl (by kernel_rfl) (by kernel_rfl) (by kernel_rfl) rfl rfl rfl rfl rfl (trivial)
    ·intro wS sS
     refine l_move rfl rfl rfl (l_nil ?_)
     exact e_got rfl
    apply a_take (L' := [true, true, true, true, true, true, false, false, false, false, false, false, false, false, false, false]) 5 rfl (by kernel_rfl) (by kernel_rfl) (by kernel_rfl) rfl rfl rfl rfl rfl (trivial)
    ·intro wS sS
     refine l_move rfl rfl rfl (l_nil ?_)
     exact e_got rfl
    apply a_take (L' := [true, true, true, true, true, true, true, false, false, false, false, false, false, false, false, false]) 6 rfl (by kernel_rfl) (by kernel_rfl) (by kernel_rfl) rfl rfl rfl rfl rfl (trivial)
    ·intro wS sS
     refine v_addrx (j := bk.length - 1 - i) rfl rfl Tryd.underlying25 tz5 rfl rfl hv20 (by first | rfl | omega) (by first | omega | (simp; done) | (simp; omega)) ?_
     refine l_nil ?_
     exact e_got rfl
    apply a_take (L' := [true, true, true, true, true, true, true, false, true, false, false, false, false, false, false, false]) 8 rfl (by kernel_rfl) (by kernel_rfl) (by kernel_rfl) rfl rfl rfl rfl rfl (trivial)
    ·intro wS sS
     refine l_move rfl rfl rfl (l_nil ?_)
     exact e_got rfl
    apply a_take (L' := [true, true, true, true, true, true, true, false, true, true, false, false, false, false, false, false]) 9 rfl (by kernel_rfl) (by kernel_rfl) (by kernel_rfl) rfl rfl rfl rfl rfl (trivial)
    ·intro wS sS
     refine l_move rfl rfl rfl (l_nil ?_)
     exact e_got rfl
    apply a_take (L' := [true, true, true, true, true, true, true, false, true, true, true, false, false, false, false, false]) 10 rfl (by kernel_rfl) (by kernel_rfl) (by kernel_rfl) rfl rfl rfl rfl rfl (trivial)
    ·intro wS sS
     refine v_addrx (j := i) rfl rfl Tryd.underlying25 tz5 rfl rfl hv20 (by first | rfl | omega) (by first | omega | (simp; done) | (simp; omega)) ?_
     refine l_nil ?_
     exact e_got rfl
    refine a_two (L' := [true, true, true, true, true, true, true, true, true, true, true, false, false, false, false, false]) (L'' := [true, true, true, true, true, true, true, false, true, true, true, true, false, false, false, false]) 7 11 (by kernel_rfl) rfl rfl rfl rfl ?_ ?_
    ·skip
     refine v_loadb rfl rfl Tryd.underlying5 rfl hv20 (by first | exact hw12.io mem0 | exact hw12.io mem1 | exact hw12.iarg hv | assumption) (by first | omega | (simp; done) | (simp; omega)) (fun hb20_7 => ?_)
     refine l_nil ?_
     refine e_any (trivial) ?_
     refine a_one (L' := [true, true, true, true, true, true, true, true, true, true, true, true, false, false, false, false]) 11 (by kernel_rfl) rfl rfl ?_
     refine v_loadb rfl rfl Tryd.underlying5 rfl hv20 (by first | exact hw12.io mem0 | exact hw12.io mem1 | exact hw12.iarg hv | assumption) (by first | omega | (simp; done) | (simp; omega)) (fun hb20_11 => ?_)
     refine l_nil ?_
     refine e_any (trivial) ?_
     apply a_take (L' := [true, true, true, true, true, true, true, true, true, true, true, true, true, false, false, false]) 12 rfl (by kernel_rfl) (by kernel_rfl) (by kernel_rfl) rfl rfl rfl rfl rfl (trivial)
     ·intro wS sS
      refine v_addrx (j := i) rfl rfl Tryd.underlying25 tz5 rfl rfl hv20 (by first | rfl | omega) (by first | omega | (simp; done) | (simp; omega)) ?_
      refine l_nil ?_
      exact e_got rfl
     refine a_one (L' := [true, true, true, true, true, true, true, true, true, true, true, true, true, true, false, false]) 13 (by kernel_rfl) rfl rfl ?_
     refine v_storebw hw12 .head hv20 (by first | rfl | omega | (simp; done) | (simp; omega)) rfl tz5 rfl rfl (rfl) (by first | omega | (simp; done) | (simp; omega)) (fun w13 hw13 => ?_)
     try clear hw12
     refine l_nil ?_
     refine e_any (trivial) ?_
     apply a_take (L' := [true, true, true, true, true, true, true, true, true, true, true, true, true, true, true, false]) 14 rfl (by kernel_rfl) (by kernel_rfl) (by kernel_rfl) rfl rfl rfl rfl rfl (trivial)
     ·intro wS sS
      refine v_addrx (j := bk.length - 1 - i) rfl rfl Tryd.underlying25 tz5 rfl rfl hv20 (by first | rfl | omega) (by first | omega | (simp; done) | (simp; omega)) ?_
      refine l_nil ?_
      exact e_got rfl
     refine a_one (L' := [true, true, true, true, true, true, true, true, true, true, true, true, true, true, true, true]) 15 (by kernel_rfl) rfl rfl ?_
     refine v_storebw hw13 .head hv20 (by first | rfl | omega | (simp; done) | (simp; omega)) rfl tz5 rfl rfl (rfl) (by first | omega | (simp; done) | (simp; omega)) (fun w14 hw14 => ?_)
     try clear hw13
     refine l_nil ?_
     refine e_any (trivial) ?_
     refine a_done (by kernel_rfl) ?_
     refine e_blk ?_
     refine e_then ?_
     refine c_keep [4, 8, 9] (.cons rfl (.cons rfl (.cons rfl .nil))) ?_
     refine c_region (l_move rfl rfl rfl ?_)
     refine l_add rfl rfl rfl rfl (w_i64 (by omega)) ?_
     refine l_move rfl rfl rfl ?_
     refine l_sub rfl rfl rfl rfl (w_i64 (by omega)) ?_
     refine l_assign rfl rfl rfl (l_assign rfl rfl rfl (l_nil ?_))
     refine e_againk (i := (i, o)) (i + 1, (o.set i (o.getD (bk.length - 1 - i) 0)).set (bk.length - 1 - i) (o.getD i 0)) ?_ ?_ (.cons rfl .nil) ?_
     ·first | omega | (simp; omega)
     ·refine ⟨hw14, by omega, by simpa using hol, fun k hk => ?_⟩
      rw [getD_set _ _ _ _ _ (by simp; omega), getD_set _ _ _ _ _ (by omega)]
      by_cases e1 : bk.length - 1 - i = k
      ·rw [if_pos e1, if_pos (by omega), hrev i (by omega), if_neg (by omega), show bk.length - 1 - k = i from by omega]
      ·rw [if_neg e1]
       by_cases e2 : i = k
       ·rw [if_pos e2, if_pos (by omega), hrev (bk.length - 1 - i) (by omega), if_neg (by omega), e2]
       ·rw [if_neg e2, hrev k hk]
        by_cases e3 : k < i ∨ bk.length - i ≤ k
        ·rw [if_pos e3, if_pos (by omega)]
        ·rw [if_neg e3, if_neg (by omega)]
     ·exact (.cons rfl (by first | rfl | (refine congrArg (Value.int _) ?_; omega)) (.cons rfl (by first | rfl | (refine congrArg (Value.int _) ?_; omega)) .nil))
    ·skip
     refine v_loadb rfl rfl Tryd.underlying5 rfl hv20 (by first | exact hw12.io mem0 | exact hw12.io mem1 | exact hw12.iarg hv | assumption) (by first | omega | (simp; done) | (simp; omega)) (fun hb20_11 => ?_)
     refine l_nil ?_
     refine e_any (trivial) ?_
     refine a_one (L' := [true, true, true, true, true, true, true, true, true, true, true, true, false, false, false, false]) 7 (by kernel_rfl) rfl rfl ?_
     refine v_loadb rfl rfl Tryd.underlying5 rfl hv20 (by first | exact hw12.io mem0 | exact hw12.io mem1 | exact hw12.iarg hv | assumption) (by first | omega | (simp; done) | (simp; omega)) (fun hb20_7 => ?_)
     refine l_nil ?_
     refine e_any (trivial) ?_
     apply a_take (L' := [true, true, true, true, true, true, true, true, true, true, true, true, true, false, false, false]) 12 rfl (by kernel_rfl) (by kernel_rfl) (by kernel_rfl) rfl rfl rfl rfl rfl (trivial)
     ·intro wS sS
      refine v_addrx (j := i) rfl rfl Tryd.underlying25 tz5 rfl rfl hv20 (by first | rfl | omega) (by first | omega | (simp; done) | (simp; omega)) ?_
      refine l_nil ?_
      exact e_got rfl
     refine a_one (L' := [true, true, true, true, true, true, true, true, true, true, true, true, true, true, false, false]) 13 (by kernel_rfl) rfl rfl ?_
     refine v_storebw hw12 .head hv20 (by first | rfl | omega | (simp; done) | (simp; omega)) rfl tz5 rfl rfl (rfl) (by first | omega | (simp; done) | (simp; omega)) (fun w15 hw15 => ?_)
     try clear hw12
     refine l_nil ?_
     refine e_any (trivial) ?_
     apply a_take (L' := [true, true, true, true, true, true, true, true, true, true, true, true, true, true, true, false]) 14 rfl (by kernel_rfl) (by kernel_rfl) (by kernel_rfl) rfl rfl rfl rfl rfl (trivial)
     ·intro wS sS
      refine v_addrx (j := bk.length - 1 - i) rfl rfl Tryd.underlying25 tz5 rfl rfl hv20 (by first | rfl | omega) (by first | omega | (simp; done) | (simp; omega)) ?_
      refine l_nil ?_
      exact e_got rfl
     refine a_one (L' := [true, true, true, true, true, true, true, true, true, true, true, true, true, true, true, true]) 15 (by kernel_rfl) rfl rfl ?_
     refine v_storebw hw15 .head hv20 (by first | rfl | omega | (simp; done) | (simp; omega)) rfl tz5 rfl rfl (rfl) (by first | omega | (simp; done) | (simp; omega)) (fun w16 hw16 => ?_)
     try clear hw15
     refine l_nil ?_
     refine e_any (trivial) ?_
     refine a_done (by kernel_rfl) ?_
     refine e_blk ?_
     refine e_then ?_
     refine c_keep [4, 8, 9] (.cons rfl (.cons rfl (.cons rfl .nil))) ?_
     refine c_region (l_move rfl rfl rfl ?_)
     refine l_add rfl rfl rfl rfl (w_i64 (by omega)) ?_
     refine l_move rfl rfl rfl ?_
     refine l_sub rfl rfl rfl rfl (w_i64 (by omega)) ?_
     refine l_assign rfl rfl rfl (l_assign rfl rfl rfl (l_nil ?_))
     refine e_againk (i := (i, o)) (i + 1, (o.set i (o.getD (bk.length - 1 - i) 0)).set (bk.length - 1 - i) (o.getD i 0)) ?_ ?_ (.cons rfl .nil) ?_
     ·first | omega | (simp; omega)
     ·refine ⟨hw16, by omega, by simpa using hol, fun k hk => ?_⟩
      rw [getD_set _ _ _ _ _ (by simp; omega), getD_set _ _ _ _ _ (by omega)]
      by_cases e1 : bk.length - 1 - i = k
      ·rw [if_pos e1, if_pos (by omega), hrev i (by omega), if_neg (by omega), show bk.length - 1 - k = i from by omega]
      ·rw [if_neg e1]
       by_cases e2 : i = k
       ·rw [if_pos e2, if_pos (by omega), hrev (bk.length - 1 - i) (by omega), if_neg (by omega), e2]
       ·rw [if_neg e2, hrev k hk]
        by_cases e3 : k < i ∨ bk.length - i ≤ k
        ·rw [if_pos e3, if_pos (by omega)]
        ·rw [if_neg e3, if_neg (by omega)]
     ·exact (.cons rfl (by first | rfl | (refine congrArg (Value.int _) ?_; omega)) (.cons rfl (by first | rfl | (refine congrArg (Value.int _) ?_; omega)) .nil))
   ·skip
    refine c_exit ?_
    refine e_then_exit ?_
    refine e_then_exit ?_
    refine e_blk_exit ?_
    refine e_then ?_
    refine c_keep [4] (.cons rfl .nil) ?_
    refine c_seq (c_region (l_move rfl rfl rfl ?_))
    refine v_tostr rfl rfl Tryd.underlying25 Tryd.underlying5 Tryd.underlying9 rfl (by first | exact hw11.io mem0 | exact hw11.io mem1 | exact hw11.iarg hv | assumption) ?_
    refine l_assign rfl rfl rfl (l_nil (e_then ?_))
    refine c_keep [2] (.cons rfl .nil) ?_
    refine c_ret ?_
    refine e_done1 Tryd.results41 rfl ?_
    refine ⟨_, rfl, ?_⟩
    have hw17 := St.del (.tail .head) hw11
    try clear hw11
    have hw18 := St.del .head hw17
    try clear hw17
    have hm : m = 0 := (hcn.nil_iff (by omega)).1 (List.eq_nil_of_length_eq_zero (by omega))
    have hl0 : 0 < (Ma.tr l).length := by omega
    have hne : nv l ≠ 0 := fun h => by
     have := (hcn0.nil_iff (by omega)).2 h
     rw [this] at hl0
     simp at hl0
    subst hm
    rw [show (0 : Int).toNat = 0 from rfl, dt0_zero, List.nil_append] at hdt
    have ho : o = bk.reverse := rev_of hol fun k hk => by
     rw [hrev k hk]
     by_cases e : k < i ∨ bk.length - i ≤ k
     ·rw [if_pos e]
     ·rw [if_neg e, show bk.length - 1 - k = k from by omega]
    exact ⟨by unfold dtx; rw [if_neg hne, ho, hdt], hw18.grows⟩
end Go.Proofs.YtojjlipcjdaejaaDoor.W
