/- walks of nat.Add, Cmp, Sub -/
import Derived.Test.YtellpcjmpmcpoaaFc
set_option linter.unusedVariables false
set_option linter.unusedSimpArgs false
set_option maxRecDepth 10000
namespace Go.Proofs.Ytellpcjmpmcpoaa.W
open Go.Vc Go.RowKit

theorem U.tr {l : List Int} (h : U l) : U (Ma.tr l) := U.of_dg h.dg.tr
theorem nv_tr (l : List Int) : nv (Ma.tr l) = nv l := Ma.tr_val _ l
theorem take_max_l (l m : List Int) : l.take (max l.length m.length) = l := List.take_of_length_le (by omega)
theorem take_max_r (l m : List Int) : m.take (max l.length m.length) = m := List.take_of_length_le (by omega)
theorem getD_u {l : List Int} (h : U l) (j : Nat) : 0 ≤ l.getD j 0 ∧ l.getD j 0 ≤ 18446744073709551615 := by
  rcases Nat.lt_or_ge j l.length with hj | hj
  · exact h.get hj
  · simp [List.getD, hj]
theorem U.set {l : List Int} (h : U l) {x : Int} (hx : 0 ≤ x ∧ x ≤ 18446744073709551615) (j : Nat) : U (l.set j x) := fun y hy => (List.mem_or_eq_of_mem_set hy).elim (h y) (fun e => e ▸ hx)
theorem U.zeros (n : Nat) : U (List.replicate n 0) := fun y hy => by rw [List.eq_of_mem_replicate hy]; omega
/-- one place of a sum -/
theorem sum_step {B p s x y c A C : Int} (hB : 0 < B) (h : s + p * c = A + C) : s + p * ((x + y + c) % B) + (p * B) * ((x + y + c) / B) = A + p * x + (C + p * y) := by
  have e := Int.emod_add_mul_ediv (x + y + c) B
  have : p * ((x + y + c) % B) + (p * B) * ((x + y + c) / B) = p * x + p * y + p * c := by
    rw [Int.mul_assoc, ← Int.mul_add, e, Int.mul_add, Int.mul_add]
  omega

theorem addN (a b : Value) (la lb : List Int) (hUa : U la) (hUb : U lb) (hLa : la.length ≤ 1099511627776) (hLb : lb.length ≤ 1099511627776) (w : World) (ha : IV w a (ints .u64 la)) (hb : IV w b (ints .u64 lb)) :
    CallsV P 40 [a, b] w fun r w' => NatR w w' r (if 8192 < Ma.blen (nv la) ∨ 8192 < Ma.blen (nv lb) ∨ 8192 < Ma.blen (nv la + nv lb) then 21 else 0) (if 8192 < Ma.blen (nv la) ∨ 8192 < Ma.blen (nv lb) ∨ 8192 < Ma.blen (nv la + nv lb) then 0 else nv la + nv lb) := by
  refine enterW Try.func40 rfl Try.ntmps40 rfl ?_
  have hw0 := St.start w
  obtain ⟨A, ca, rfl, hca, hsa⟩ := ha
  have ha : IV w (.slice A (ints .u64 la).length ca) (ints .u64 la) := ⟨A, ca, rfl, hca, hsa⟩
  obtain ⟨A2, cb, rfl, hcb, hsb⟩ := hb
  have hb : IV w (.slice A2 (ints .u64 lb).length cb) (ints .u64 lb) := ⟨A2, cb, rfl, hcb, hsb⟩
  have hva := trim_iv ha
  have hvb := trim_iv hb
  have hta : (Ma.tr la).length ≤ la.length := (Ma.tr_take la).2.1
  have htb : (Ma.tr lb).length ≤ lb.length := (Ma.tr_take lb).2.1
  have hUa2 := hUa.tr
  have hUb2 := hUb.tr
  clear hsa hsb
  refine c_seq ?_
  refine c_region ?_
  refine l_assign rfl rfl rfl ?_
  refine l_assign rfl rfl rfl ?_
  refine l_nil ?_
  refine e_then ?_
  refine c_keep [0, 1] (.cons rfl (.cons rfl .nil)) ?_
  refine c_seq ?_
  refine c_seq ?_
  refine c_region ?_
  refine l_move rfl rfl rfl ?_
  refine l_callp rfl rfl Try.func50 rfl rfl (.cons rfl .nil) (longN A ca la hUa (by omega) w (hw0.iarg ha)) ?_
  refine l_move rfl rfl rfl ?_
  apply l_or 2 [0, 1] rfl rfl (.cons rfl (.cons rfl (.cons rfl .nil))) rfl rfl (fun _ => rfl) rfl rfl rfl
  · intro hg1_3
    refine l_move rfl rfl rfl ?_
    refine l_callp rfl rfl Try.func50 rfl rfl (.cons rfl .nil) (longN A2 cb lb hUb (by omega) w (hw0.iarg hb)) ?_
    refine l_nil ?_
    exact e_stays rfl (.cons rfl (congrArg Value.bool (decide_eq_false hg1_3).symm) (.cons rfl rfl (.cons rfl rfl .nil)))
  refine l_nil ?_
  refine e_then ?_
  refine c_keep [0, 1, 15] (.cons rfl (.cons rfl (.cons rfl .nil))) ?_
  first | refine c_cond rfl (fun hc0 => ?_) (fun hc0 => ?_) | refine c_condb rfl (fun hc0 => ?_) (fun hc0 => ?_)
  · skip
    have hbad : 8192 < Ma.blen (nv la) ∨ 8192 < Ma.blen (nv lb) := hc0
    refine c_seq ?_
    refine c_region ?_
    refine l_assign rfl rfl rfl ?_
    refine l_assign rfl rfl rfl ?_
    refine l_nil ?_
    refine e_then ?_
    refine c_keep [4, 5] (.cons rfl (.cons rfl .nil)) ?_
    refine c_ret ?_
    refine e_then_ret ?_
    have hw9 := hw0.nil 22
    refine e_done2 Try.results40 rfl rfl ?_
    refine ⟨_, rfl, ?_⟩
    unfold NatR
    rw [if_pos (hbad.elim .inl fun h => .inr (.inl h)), if_pos (hbad.elim .inl fun h => .inr (.inl h))]
    exact ⟨_, _, rfl, Ma.Cn.nil, (hw0.nil 22).grows⟩
  · skip
    have hgood : ¬ (8192 < Ma.blen (nv la) ∨ 8192 < Ma.blen (nv lb)) := hc0
    refine c_skip ?_
    refine e_then ?_
    refine c_keep [0, 1] (.cons rfl (.cons rfl .nil)) ?_
    refine c_seq ?_
    refine c_region ?_
    refine l_move rfl rfl rfl ?_
    refine l_callp rfl rfl Try.func48 rfl rfl (.cons rfl .nil) (trim A ca la hUa (by omega) w (hw0.iarg ha)) ?_
    refine l_move rfl rfl rfl ?_
    refine l_callp rfl rfl Try.func48 rfl rfl (.cons rfl .nil) (trim A2 cb lb hUb (by omega) w (hw0.iarg hb)) ?_
    refine l_assign rfl rfl rfl ?_
    refine l_assign rfl rfl rfl ?_
    refine l_nil ?_
    refine e_then ?_
    refine c_keep [0, 1] (.cons rfl (.cons rfl .nil)) ?_
    refine c_seq ?_
    refine c_region ?_
    refine l_move rfl rfl rfl ?_
    refine v_leni rfl rfl Try.underlying50 rfl (by first | exact hw0.iarg hva | exact hw0.iarg hvb | exact hw0.iarg ha | exact hw0.iarg hb | assumption) ?_
    refine l_move rfl rfl rfl ?_
    refine v_leni rfl rfl Try.underlying50 rfl (by first | exact hw0.iarg hva | exact hw0.iarg hvb | exact hw0.iarg ha | exact hw0.iarg hb | assumption) ?_
    refine l_max rfl rfl rfl rfl ?_
    refine l_assign rfl rfl rfl ?_
    refine l_nil ?_
    refine e_then ?_
    refine c_keep [0, 1, 6] (.cons rfl (.cons rfl (.cons rfl .nil))) ?_
    refine c_seq ?_
    refine c_region ?_
    refine l_move rfl rfl rfl ?_
    refine l_add rfl rfl rfl rfl (w_i64 (by omega)) ?_
    refine v_make (m := max (Ma.tr la).length (Ma.tr lb).length + 1) (c := max (Ma.tr la).length (Ma.tr lb).length + 1) hw0 rfl rfl Try.underlying50 ti22 rfl rfl rfl (by omega) (by omega) (by omega) (by omega) (by omega) (fun v5_2 w1 hw1 => ?_)
    try clear hw0
    refine l_assign rfl rfl rfl ?_
    refine l_nil ?_
    refine e_then ?_
    refine c_keep [0, 1, 6, 7] (.cons rfl (.cons rfl (.cons rfl (.cons rfl .nil)))) ?_
    refine c_seq ?_
    refine c_region ?_
    refine l_assign rfl rfl rfl ?_
    refine l_nil ?_
    refine e_then ?_
    refine c_seq ?_
    refine c_seq ?_
    refine c_region ?_
    refine l_move rfl rfl rfl ?_
    refine l_move rfl rfl rfl ?_
    refine l_nil ?_
    refine e_then ?_
    refine c_block ?_
    refine c_loopk (ι := Nat × List Int × Int) (fun (z0 : Nat × List Int × Int) => match z0 with | ⟨k, o, c⟩ => max (Ma.tr la).length (Ma.tr lb).length - k) (fun (z0 : Nat × List Int × Int) (w' : World) => match z0 with | ⟨k, o, c⟩ => St w w.heap.size None' ([As.ri 22 .u64 v5_2 o]) w' ∧ k ≤ max (Ma.tr la).length (Ma.tr lb).length ∧ o.length = max (Ma.tr la).length (Ma.tr lb).length + 1 ∧ U o ∧ 0 ≤ c ∧ c ≤ 1 ∧ nv (o.take k) + 18446744073709551616 ^ k * c = nv ((Ma.tr la).take k) + nv ((Ma.tr lb).take k)) (fun (z0 : Nat × List Int × Int) => match z0 with | ⟨k, o, c⟩ => [(8, .int .u64 c), (29, .int .i64 (k : Int))]) [0, 1, 6, 7, 28] (0, List.replicate (max (Ma.tr la).length (Ma.tr lb).length + 1) 0, 0) ?_ (.cons rfl (.cons rfl (.cons rfl (.cons rfl (.cons rfl .nil))))) ?_ ?_
    · refine ⟨?_, by omega, by simp, U.zeros _, by omega, by omega, by simp [Ma.vb]⟩
      exact hw1.cast (by rw [ints_replicate])
    · exact (.cons rfl (by first | rfl | (refine congrArg (Value.int _) ?_; omega)) (.cons rfl (by first | rfl | (refine congrArg (Value.int _) ?_; omega)) .nil))
    rintro ⟨k, o, c⟩ w2 ⟨hw2, hk, ho, hUo, hca1, hca2, hv⟩
    show RunC P _ _ _ (_ :: _) _
    refine c_seq ?_
    refine c_region ?_
    refine l_lss rfl rfl rfl rfl ?_
    refine l_nil ?_
    refine e_then ?_
    refine c_seq ?_
    first | refine c_cond rfl (fun hc1 => ?_) (fun hc1 => ?_) | refine c_condb rfl (fun hc1 => ?_) (fun hc1 => ?_)
    · skip
      refine c_skip ?_
      refine e_then ?_
      refine c_keep [0, 1, 6, 7, 8, 28, 29] (.cons rfl (.cons rfl (.cons rfl (.cons rfl (.cons rfl (.cons rfl (.cons rfl .nil))))))) ?_
      refine c_seq ?_
      refine c_block ?_
      refine c_seq ?_
      refine c_region ?_
      refine l_move rfl rfl rfl ?_
      refine l_assign rfl rfl rfl ?_
      refine l_nil ?_
      refine e_then ?_
      refine c_keep [0, 1, 6, 7, 8, 9, 28, 29] (.cons rfl (.cons rfl (.cons rfl (.cons rfl (.cons rfl (.cons rfl (.cons rfl (.cons rfl .nil)))))))) ?_
      refine c_region ?_
      refine l_move rfl rfl rfl ?_
      refine l_move rfl rfl rfl ?_
      refine l_move rfl rfl rfl ?_
      refine l_move rfl rfl rfl ?_
      refine l_callp rfl rfl Try.func56 rfl rfl (.cons rfl (.cons rfl .nil)) (atN _ _ hUa2 k w2 (hw2.iarg hva)) ?_
      refine l_move rfl rfl rfl ?_
      refine l_move rfl rfl rfl ?_
      refine l_callp rfl rfl Try.func56 rfl rfl (.cons rfl (.cons rfl .nil)) (atN _ _ hUb2 k w2 (hw2.iarg hvb)) ?_
      refine l_move rfl rfl rfl ?_
      refine l_extern rfl rfl Try.func55 rfl rfl rfl rfl (.cons rfl (.cons rfl (.cons rfl .nil))) (run_add64 _ _ _ (getD_u hUa2 k).1 (getD_u hUb2 k).1 hca1 hca2 _) ?_
      refine l_move rfl rfl rfl ?_
      refine l_extract rfl rfl rfl rfl ?_
      refine l_extract rfl rfl rfl rfl ?_
      refine v_addrn rfl rfl Try.underlying50 tz22 rfl rfl (by first | exact hw2.io mem0 | exact hw2.iarg hva | exact hw2.iarg hvb | exact hw2.iarg ha | exact hw2.iarg hb | assumption) rfl (by first | omega | (simp; done) | (simp; omega)) (fun A10_13 c10_13 hA10_13 => ?_)
      refine v_storei hw2 .head hA10_13 rfl tz22 rfl rfl (by first | omega | (simp; done) | (simp; omega)) (fun w3 hw3 => ?_)
      try clear hw2
      refine l_assign rfl rfl rfl ?_
      refine l_nil ?_
      refine e_blk ?_
      refine e_then ?_
      refine c_keep [0, 1, 6, 7, 8, 28, 29] (.cons rfl (.cons rfl (.cons rfl (.cons rfl (.cons rfl (.cons rfl (.cons rfl .nil))))))) ?_
      refine c_region ?_
      refine l_add rfl rfl rfl rfl (w_i64 (by omega)) ?_
      refine l_move rfl rfl rfl ?_
      refine l_nil ?_
      refine e_againk (i := (k, o, c)) (k + 1, o.set k ((List.getD (Ma.tr la) k 0 + List.getD (Ma.tr lb) k 0 + c) % 18446744073709551616), (List.getD (Ma.tr la) k 0 + List.getD (Ma.tr lb) k 0 + c) / 18446744073709551616) ?_ ?_ (.cons rfl (.cons rfl (.cons rfl (.cons rfl (.cons rfl .nil))))) ?_
      · first | omega | (simp; omega)
      · have ga := getD_u hUa2 k
        have gb := getD_u hUb2 k
        refine ⟨hw3, by omega, by simpa using ho, hUo.set (by omega) k, by omega, by omega, ?_⟩
        have h1 := Ma.vb_set 18446744073709551616 o k ((List.getD (Ma.tr la) k 0 + List.getD (Ma.tr lb) k 0 + c) % 18446744073709551616) (by omega)
        have h2 := Ma.vb_take_succ 18446744073709551616 (Ma.tr la) k
        have h3 := Ma.vb_take_succ 18446744073709551616 (Ma.tr lb) k
        show Ma.vb _ _ + _ = Ma.vb _ _ + Ma.vb _ _
        rw [h1, h2, h3, Int.pow_succ]
        exact sum_step (by omega) hv
      · exact (.cons rfl (by first | rfl | (refine congrArg (Value.int _) ?_; omega)) (.cons rfl (by first | rfl | (refine congrArg (Value.int _) ?_; omega)) .nil))
    · skip
      refine c_exit ?_
      refine e_then_exit ?_
      refine e_then_exit ?_
      refine e_blk_exit ?_
      refine e_then ?_
      refine c_keep [6, 7, 8] (.cons rfl (.cons rfl (.cons rfl .nil))) ?_
      refine c_seq ?_
      refine c_region ?_
      refine l_move rfl rfl rfl ?_
      refine l_move rfl rfl rfl ?_
      refine l_move rfl rfl rfl ?_
      refine v_addrn (j := max (Ma.tr la).length (Ma.tr lb).length) rfl rfl Try.underlying50 tz22 rfl rfl (by first | exact hw2.io mem0 | exact hw2.iarg hva | exact hw2.iarg hvb | exact hw2.iarg ha | exact hw2.iarg hb | assumption) (by omega) (by first | omega | (simp; done) | (simp; omega)) (fun A12_3 c12_3 hA12_3 => ?_)
      refine v_storei hw2 .head hA12_3 rfl tz22 rfl rfl (by first | omega | (simp; done) | (simp; omega)) (fun w4 hw4 => ?_)
      try clear hw2
      refine l_nil ?_
      refine e_then ?_
      refine c_keep [7] (.cons rfl .nil) ?_
      refine c_seq ?_
      refine c_region ?_
      have ho3 : (o.set (max (Ma.tr la).length (Ma.tr lb).length) c).length = max (Ma.tr la).length (Ma.tr lb).length + 1 := by simpa using ho
      have hU3 : U (o.set (max (Ma.tr la).length (Ma.tr lb).length) c) := hUo.set (by omega) _
      refine l_move rfl rfl rfl ?_
      refine l_call rfl rfl Try.func57 rfl rfl (.cons rfl .nil) (told_turn hU3 (by omega) (hw4.io mem0)) ?_
      rintro _ w5 ⟨v', ls, rfl, hcn, hT⟩
      have hw5 := hT _ _ _ _ _ .head hw4
      try clear hT hw4
      refine l_extract rfl rfl rfl rfl ?_
      refine l_extract rfl rfl rfl rfl ?_
      refine l_assign rfl rfl rfl ?_
      refine l_assign rfl rfl rfl ?_
      refine l_nil ?_
      refine e_then ?_
      refine c_keep [4, 5] (.cons rfl (.cons rfl .nil)) ?_
      refine c_ret ?_
      refine e_done2 Try.results40 rfl rfl ?_
      refine ⟨_, rfl, ?_⟩
      have hk2 : k = max (Ma.tr la).length (Ma.tr lb).length := by omega
      subst hk2
      have h1 := Ma.vb_set 18446744073709551616 o (max (Ma.tr la).length (Ma.tr lb).length) c (by omega)
      rw [List.take_of_length_le (by omega)] at h1
      rw [take_max_l, take_max_r, nv_tr, nv_tr] at hv
      have e : nv (o.set (max (Ma.tr la).length (Ma.tr lb).length) c) = nv la + nv lb := h1.trans hv
      rw [e] at hcn ⊢
      unfold NatR
      by_cases hC : 8192 < Ma.blen (nv la + nv lb)
      · rw [if_pos hC] at hcn ⊢
        rw [if_pos (.inr (.inr hC)), if_pos (.inr (.inr hC))]
        exact ⟨_, _, rfl, hcn, hw5.grows⟩
      · rw [if_neg hC] at hcn ⊢
        have hn : ¬ (8192 < Ma.blen (nv la) ∨ 8192 < Ma.blen (nv lb) ∨ 8192 < Ma.blen (nv la + nv lb)) := fun h => h.elim (fun h => hgood (.inl h)) fun h => h.elim (fun h => hgood (.inr h)) hC
        rw [if_neg hn, if_neg hn]
        exact ⟨_, _, rfl, hcn, hw5.grows⟩

/-- -1, 0, 1 -/
def cmpI (a b : Int) : Int := if a < b then -1 else if b < a then 1 else 0
theorem cmpI_lt {a b : Int} (h : a < b) : cmpI a b = -1 := by unfold cmpI; rw [if_pos h]
theorem cmpI_gt {a b : Int} (h : b < a) : cmpI a b = 1 := by unfold cmpI; rw [if_neg (by omega), if_pos h]
theorem cmpI_eq {a b : Int} (h : a = b) : cmpI a b = 0 := by unfold cmpI; rw [if_neg (by omega), if_neg (by omega)]
theorem drop_split {l : List Int} {k : Nat} (h : k < l.length) : l.drop k = l.getD k 0 :: l.drop (k + 1) := by
  have : l.getD k 0 = l[k] := by simp [List.getD, h]
  rw [this, ← List.drop_eq_getElem_cons h]

theorem cmpN (a b : Value) (la lb : List Int) (hUa : U la) (hUb : U lb) (hLa : la.length ≤ 1099511627776) (hLb : lb.length ≤ 1099511627776) (w : World) (ha : IV w a (ints .u64 la)) (hb : IV w b (ints .u64 lb)) :
    CallsV P 52 [a, b] w fun r w' => r = .int .i64 (cmpI (nv la) (nv lb)) ∧ Grow w w' [] := by
  refine enterW Try.func52 rfl Try.ntmps52 rfl ?_
  have hw0 := St.start w
  obtain ⟨A, ca, rfl, hca, hsa⟩ := ha
  have ha : IV w (.slice A (ints .u64 la).length ca) (ints .u64 la) := ⟨A, ca, rfl, hca, hsa⟩
  obtain ⟨A2, cb, rfl, hcb, hsb⟩ := hb
  have hb : IV w (.slice A2 (ints .u64 lb).length cb) (ints .u64 lb) := ⟨A2, cb, rfl, hcb, hsb⟩
  have hva := trim_iv ha
  have hvb := trim_iv hb
  have hta : (Ma.tr la).length ≤ la.length := (Ma.tr_take la).2.1
  have htb : (Ma.tr lb).length ≤ lb.length := (Ma.tr_take lb).2.1
  have hUa2 := hUa.tr
  have hUb2 := hUb.tr
  clear hsa hsb
  have cna : Ma.Cn 18446744073709551616 (Ma.tr la) (nv la) := Ma.Cn.of_tr hUa.dg rfl
  have cnb : Ma.Cn 18446744073709551616 (Ma.tr lb) (nv lb) := Ma.Cn.of_tr hUb.dg rfl
  refine c_seq ?_
  refine c_region ?_
  refine l_assign rfl rfl rfl ?_
  refine l_nil ?_
  refine e_then ?_
  refine c_keep [0, 1] (.cons rfl (.cons rfl .nil)) ?_
  refine c_seq ?_
  refine c_region ?_
  refine l_move rfl rfl rfl ?_
  refine l_callp rfl rfl Try.func48 rfl rfl (.cons rfl .nil) (trim A ca la hUa (by omega) w (hw0.iarg ha)) ?_
  refine l_move rfl rfl rfl ?_
  refine l_callp rfl rfl Try.func48 rfl rfl (.cons rfl .nil) (trim A2 cb lb hUb (by omega) w (hw0.iarg hb)) ?_
  refine l_assign rfl rfl rfl ?_
  refine l_assign rfl rfl rfl ?_
  refine l_nil ?_
  refine e_then ?_
  refine c_keep [0, 1] (.cons rfl (.cons rfl .nil)) ?_
  refine c_seq ?_
  refine c_seq ?_
  refine c_region ?_
  refine l_move rfl rfl rfl ?_
  refine v_leni rfl rfl Try.underlying50 rfl (by first | exact hw0.iarg hva | exact hw0.iarg hvb | assumption) ?_
  refine l_move rfl rfl rfl ?_
  refine v_leni rfl rfl Try.underlying50 rfl (by first | exact hw0.iarg hva | exact hw0.iarg hvb | assumption) ?_
  refine l_neq rfl rfl rfl rfl ?_
  refine l_nil ?_
  refine e_then ?_
  refine c_keep [0, 1, 14] (.cons rfl (.cons rfl (.cons rfl .nil))) ?_
  first | refine c_cond rfl (fun hc0 => ?_) (fun hc0 => ?_) | refine c_condb rfl (fun hc0 => ?_) (fun hc0 => ?_)
  · skip
    refine c_seq ?_
    refine c_seq ?_
    refine c_region ?_
    refine l_move rfl rfl rfl ?_
    refine v_leni rfl rfl Try.underlying50 rfl (by first | exact hw0.iarg hva | exact hw0.iarg hvb | assumption) ?_
    refine l_move rfl rfl rfl ?_
    refine v_leni rfl rfl Try.underlying50 rfl (by first | exact hw0.iarg hva | exact hw0.iarg hvb | assumption) ?_
    refine l_lss rfl rfl rfl rfl ?_
    refine l_nil ?_
    refine e_then ?_
    refine c_keep [19] (.cons rfl .nil) ?_
    first | refine c_cond rfl (fun hc1 => ?_) (fun hc1 => ?_) | refine c_condb rfl (fun hc1 => ?_) (fun hc1 => ?_)
    · skip
      refine c_seq ?_
      refine c_region ?_
      refine l_assign rfl rfl rfl ?_
      refine l_nil ?_
      refine e_then ?_
      refine c_keep [4] (.cons rfl .nil) ?_
      refine c_ret ?_
      refine e_then_ret ?_
      refine e_then_ret ?_
      refine e_done1 Try.results52 rfl ?_
      refine ⟨_, rfl, ?_⟩
      exact ⟨by rw [cmpI_lt (cna.lt_of_len (by omega) cnb (by omega))], hw0.grows⟩
    · skip
      refine c_skip ?_
      refine e_then ?_
      refine c_keep [] .nil ?_
      refine c_seq ?_
      refine c_region ?_
      refine l_assign rfl rfl rfl ?_
      refine l_nil ?_
      refine e_then ?_
      refine c_ret ?_
      refine e_then_ret ?_
      refine e_done1 Try.results52 rfl ?_
      refine ⟨_, rfl, ?_⟩
      exact ⟨by rw [cmpI_gt (cnb.lt_of_len (by omega) cna (by omega))], hw0.grows⟩
  · skip
    have hlen : (Ma.tr la).length = (Ma.tr lb).length := by omega
    refine c_skip ?_
    refine e_then ?_
    refine c_keep [0, 1] (.cons rfl (.cons rfl .nil)) ?_
    refine c_seq ?_
    refine c_seq ?_
    refine c_region ?_
    refine l_move rfl rfl rfl ?_
    refine v_leni rfl rfl Try.underlying50 rfl (by first | exact hw0.iarg hva | exact hw0.iarg hvb | assumption) ?_
    refine l_sub rfl rfl rfl rfl (w_i64 (by omega)) ?_
    refine l_assign rfl rfl rfl ?_
    refine l_nil ?_
    refine e_then ?_
    refine c_keep [0, 1, 5] (.cons rfl (.cons rfl (.cons rfl .nil))) ?_
    refine c_block ?_
    refine c_loopk (ι := Nat) (fun (k : Nat) => k) (fun (k : Nat) (w' : World) => St w w.heap.size None' ([]) w' ∧ k ≤ (Ma.tr la).length ∧ (Ma.tr la).drop k = (Ma.tr lb).drop k) (fun (k : Nat) => [(5, .int .i64 ((k : Int) - 1))]) [0, 1] ((Ma.tr la).length) ?_ (.cons rfl (.cons rfl .nil)) ?_ ?_
    · exact ⟨hw0, Nat.le_refl _, by rw [List.drop_length, hlen, List.drop_length]⟩
    · exact (.cons rfl (by first | rfl | (refine congrArg (Value.int _) ?_; omega)) .nil)
    rintro k w1 ⟨hw1, hk, hd⟩
    show RunC P _ _ _ (_ :: _) _
    refine c_seq ?_
    refine c_seq ?_
    refine c_region ?_
    refine l_move rfl rfl rfl ?_
    refine l_geq rfl rfl rfl rfl ?_
    refine l_nil ?_
    refine e_then ?_
    refine c_keep [0, 1, 5, 24] (.cons rfl (.cons rfl (.cons rfl (.cons rfl .nil)))) ?_
    first | refine c_cond rfl (fun hc2 => ?_) (fun hc2 => ?_) | refine c_condb rfl (fun hc2 => ?_) (fun hc2 => ?_)
    · skip
      refine c_skip ?_
      refine e_then ?_
      refine c_keep [0, 1, 5] (.cons rfl (.cons rfl (.cons rfl .nil))) ?_
      refine c_seq ?_
      refine c_block ?_
      refine c_block ?_
      refine c_seq ?_
      refine c_still (by kernel_rfl) (by kernel_rfl) ?_
      have hw2 := hw1.drewn
      try clear hw1
      refine l_move rfl rfl rfl ?_
      refine l_move rfl rfl rfl ?_
      refine v_getr (j := k - 1) rfl rfl rfl rfl Try.underlying50 tz22 Try.underlying22 rfl rfl (by first | exact hw2.iarg hva | exact hw2.iarg hvb | assumption) (by assumption) rfl (by omega) (by first | omega | (simp; omega)) (fun hb9_2 => ?_)
      refine l_move rfl rfl rfl ?_
      refine l_move rfl rfl rfl ?_
      refine v_getr (j := k - 1) rfl rfl rfl rfl Try.underlying50 tz22 Try.underlying22 rfl rfl (by first | exact hw2.iarg hva | exact hw2.iarg hvb | assumption) (by assumption) rfl (by omega) (by first | omega | (simp; omega)) (fun hb9_6 => ?_)
      refine l_lss rfl rfl rfl rfl ?_
      refine l_assign rfl rfl rfl ?_
      refine l_nil ?_
      refine e_then ?_
      refine c_keep [0, 1, 5, 27] (.cons rfl (.cons rfl (.cons rfl (.cons rfl .nil)))) ?_
      first | refine c_cond rfl (fun hc3 => ?_) (fun hc3 => ?_) | refine c_condb rfl (fun hc3 => ?_) (fun hc3 => ?_)
      · skip
        refine c_seq ?_
        refine c_region ?_
        refine l_assign rfl rfl rfl ?_
        refine l_nil ?_
        refine e_then ?_
        refine c_keep [4] (.cons rfl .nil) ?_
        refine c_ret ?_
        refine e_blk_ret ?_
        refine e_blk_ret ?_
        refine e_then_ret ?_
        refine e_then_ret ?_
        refine e_blk_ret ?_
        refine e_then_ret ?_
        refine e_done1 Try.results52 rfl ?_
        refine ⟨_, rfl, ?_⟩
        have hd' : (Ma.tr la).drop (k - 1 + 1) = (Ma.tr lb).drop (k - 1 + 1) := by rw [show k - 1 + 1 = k from by omega]; exact hd
        have h := Ma.vb_lt_of_top (show (0 : Int) < 18446744073709551616 by omega) hUa2.dg hUb2.dg hlen (k := k - 1) (by omega) hd' (by omega)
        rw [cna.val, cnb.val] at h
        exact ⟨by rw [cmpI_lt h], hw2.grows⟩
      · skip
        refine c_seq ?_
        refine c_still (by kernel_rfl) (by kernel_rfl) ?_
        have hw3 := hw2.drewn
        try clear hw2
        refine l_move rfl rfl rfl ?_
        refine l_move rfl rfl rfl ?_
        refine v_getr (j := k - 1) rfl rfl rfl rfl Try.underlying50 tz22 Try.underlying22 rfl rfl (by first | exact hw3.iarg hva | exact hw3.iarg hvb | assumption) (by assumption) rfl (by omega) (by first | omega | (simp; omega)) (fun hb11_2 => ?_)
        refine l_move rfl rfl rfl ?_
        refine l_move rfl rfl rfl ?_
        refine v_getr (j := k - 1) rfl rfl rfl rfl Try.underlying50 tz22 Try.underlying22 rfl rfl (by first | exact hw3.iarg hva | exact hw3.iarg hvb | assumption) (by assumption) rfl (by omega) (by first | omega | (simp; omega)) (fun hb11_6 => ?_)
        refine l_gtr rfl rfl rfl rfl ?_
        refine l_assign rfl rfl rfl ?_
        refine l_nil ?_
        refine e_then ?_
        refine c_keep [0, 1, 5, 37] (.cons rfl (.cons rfl (.cons rfl (.cons rfl .nil)))) ?_
        first | refine c_cond rfl (fun hc4 => ?_) (fun hc4 => ?_) | refine c_condb rfl (fun hc4 => ?_) (fun hc4 => ?_)
        · skip
          refine c_seq ?_
          refine c_region ?_
          refine l_assign rfl rfl rfl ?_
          refine l_nil ?_
          refine e_then ?_
          refine c_keep [4] (.cons rfl .nil) ?_
          refine c_ret ?_
          refine e_blk_ret ?_
          refine e_blk_ret ?_
          refine e_then_ret ?_
          refine e_then_ret ?_
          refine e_blk_ret ?_
          refine e_then_ret ?_
          refine e_done1 Try.results52 rfl ?_
          refine ⟨_, rfl, ?_⟩
          have hd' : (Ma.tr lb).drop (k - 1 + 1) = (Ma.tr la).drop (k - 1 + 1) := by rw [show k - 1 + 1 = k from by omega]; exact hd.symm
          have h := Ma.vb_lt_of_top (show (0 : Int) < 18446744073709551616 by omega) hUb2.dg hUa2.dg hlen.symm (k := k - 1) (by omega) hd' (by omega)
          rw [cna.val, cnb.val] at h
          exact ⟨by rw [cmpI_gt h], hw3.grows⟩
        · skip
          refine c_skip ?_
          refine e_blk ?_
          refine e_blk ?_
          refine e_then ?_
          refine c_keep [0, 1, 5] (.cons rfl (.cons rfl (.cons rfl .nil))) ?_
          refine c_region ?_
          refine l_move rfl rfl rfl ?_
          refine l_sub rfl rfl rfl rfl (w_i64 (by omega)) ?_
          refine l_assign rfl rfl rfl ?_
          refine l_nil ?_
          refine e_againk (i := (k)) (k - 1) ?_ ?_ (.cons rfl (.cons rfl .nil)) ?_
          · first | omega | (simp; omega)
          · have e1 := drop_split (l := Ma.tr la) (k := k - 1) (by omega)
            have e2 := drop_split (l := Ma.tr lb) (k := k - 1) (by omega)
            refine ⟨hw3, by omega, ?_⟩
            rw [e1, e2, show k - 1 + 1 = k from by omega, hd, show (Ma.tr la).getD (k - 1) 0 = (Ma.tr lb).getD (k - 1) 0 from by omega]
          · exact (.cons rfl (by first | rfl | (refine congrArg (Value.int _) ?_; omega)) .nil)
    · skip
      refine c_exit ?_
      refine e_then_exit ?_
      refine e_then_exit ?_
      refine e_blk_exit ?_
      refine e_then ?_
      refine c_keep [] .nil ?_
      refine c_seq ?_
      refine c_region ?_
      refine l_assign rfl rfl rfl ?_
      refine l_nil ?_
      refine e_then ?_
      refine c_ret ?_
      refine e_done1 Try.results52 rfl ?_
      refine ⟨_, rfl, ?_⟩
      have hk0 : k = 0 := by omega
      subst hk0
      simp only [List.drop_zero] at hd
      exact ⟨by rw [cmpI_eq (cna.val.symm.trans ((congrArg _ hd).trans cnb.val))], hw1.grows⟩
end Go.Proofs.Ytellpcjmpmcpoaa.W
