/- walks of nat.Add, Cmp, Sub -/
import Derived.Test.YtmcbdgpcbcldjaaFc
set_option linter.unusedVariables false
set_option linter.unusedSimpArgs false
set_option maxRecDepth 10000
namespace Go.Proofs.Ytmcbdgpcbcldjaa.W
open Go.Vc Go.RowKit

theorem U.tr {l : List Int} (h : U l) : U (Ma.tr l) := U.of_dg h.dg.tr
theorem nv_tr (l : List Int) : nv (Ma.tr l) = nv l := Ma.tr_val _ l
theorem take_max_l (l m : List Int) : l.take (max l.length m.length) = l := List.take_of_length_le (by omega)
theorem take_max_r (l m : List Int) : m.take (max l.length m.length) = m := List.take_of_length_le (by omega)
theorem getD_u {l : List Int} (h : U l) (j : Nat) : 0 ≤ l.getD j 0 ∧ l.getD j 0 ≤ 18446744073709551615 := by
  rcases Nat.lt_or_ge j l.length with hj | hj
  · exact h.get hj
  · simp [List.getD, hj]
theorem U.set {l : List Int} (h : U l) {x : Int} (hx : 0 ≤ x ∧ x ≤ 18446744073709551615) (j : Nat) : U (l.set j x) := fun y hy => (List.mem_or_eq_of_mem_set hy).elim (h y) (fun e => e ▸ hx)
theorem U.zeros (n : Nat) : U (List.replicate n 0) := fun y hy => by rw [List.eq_of_mem_replicate hy]; omega
/-- one place of a sum -/
theorem sum_step {B p s x y c A C : Int} (hB : 0 < B) (h : s + p * c = A + C) : s + p * ((x + y + c) % B) + (p * B) * ((x + y + c) / B) = A + p * x + (C + p * y) := by
  have e := Int.emod_add_mul_ediv (x + y + c) B
  have : p * ((x + y + c) % B) + (p * B) * ((x + y + c) / B) = p * x + p * y + p * c := by
    rw [Int.mul_assoc, ← Int.mul_add, e, Int.mul_add, Int.mul_add]
  omega


/-- -1, 0, 1 -/
def cmpI (a b : Int) : Int := if a < b then -1 else if b < a then 1 else 0
theorem cmpI_lt {a b : Int} (h : a < b) : cmpI a b = -1 := by unfold cmpI; rw [if_pos h]
theorem cmpI_gt {a b : Int} (h : b < a) : cmpI a b = 1 := by unfold cmpI; rw [if_neg (by omega), if_pos h]
theorem cmpI_eq {a b : Int} (h : a = b) : cmpI a b = 0 := by unfold cmpI; rw [if_neg (by omega), if_neg (by omega)]
theorem drop_split {l : List Int} {k : Nat} (h : k < l.length) : l.drop k = l.getD k 0 :: l.drop (k + 1) := by
  have : l.getD k 0 = l[k] := by simp [List.getD, h]
  rw [this, ← List.drop_eq_getElem_cons h]

theorem cmpN (a b : Value) (la lb : List Int) (hUa : U la) (hUb : U lb) (hLa : la.length ≤ 1099511627776) (hLb : lb.length ≤ 1099511627776) (w : World) (ha : IV w a (ints .u64 la)) (hb : IV w b (ints .u64 lb)) :
    CallsV P 60 [a, b] w fun r w' => r = .int .i64 (cmpI (nv la) (nv lb)) ∧ Grow w w' [] := by
  refine enterW Try.func60 rfl Try.ntmps60 rfl ?_
  have hw0 := St.start w
  obtain ⟨A, ca, rfl, hca, hsa⟩ := ha
  have ha : IV w (.slice A (ints .u64 la).length ca) (ints .u64 la) := ⟨A, ca, rfl, hca, hsa⟩
  obtain ⟨A2, cb, rfl, hcb, hsb⟩ := hb
  have hb : IV w (.slice A2 (ints .u64 lb).length cb) (ints .u64 lb) := ⟨A2, cb, rfl, hcb, hsb⟩
  have hva := trim_iv ha
  have hvb := trim_iv hb
  have hta : (Ma.tr la).length ≤ la.length := (Ma.tr_take la).2.1
  have htb : (Ma.tr lb).length ≤ lb.length := (Ma.tr_take lb).2.1
  have hUa2 := hUa.tr
  have hUb2 := hUb.tr
  clear hsa hsb
  have cna : Ma.Cn 18446744073709551616 (Ma.tr la) (nv la) := Ma.Cn.of_tr hUa.dg rfl
  have cnb : Ma.Cn 18446744073709551616 (Ma.tr lb) (nv lb) := Ma.Cn.of_tr hUb.dg rfl
  refine c_seq ?_
  refine c_region ?_
  refine l_assign rfl rfl rfl ?_
  refine l_nil ?_
  refine e_then ?_
  refine c_keep [0, 1] (.cons rfl (.cons rfl .nil)) ?_
  refine c_seq ?_
  refine c_region ?_
  refine l_move rfl rfl rfl ?_
  refine l_callp rfl rfl Try.func71 rfl rfl (.cons rfl .nil) (trim A ca la hUa (by omega) w (hw0.iarg ha)) ?_
  refine l_move rfl rfl rfl ?_
  refine l_callp rfl rfl Try.func71 rfl rfl (.cons rfl .nil) (trim A2 cb lb hUb (by omega) w (hw0.iarg hb)) ?_
  refine l_assign rfl rfl rfl ?_
  refine l_assign rfl rfl rfl ?_
  refine l_nil ?_
  refine e_then ?_
  refine c_keep [0, 1] (.cons rfl (.cons rfl .nil)) ?_
  refine c_seq ?_
  refine c_seq ?_
  refine c_region ?_
  refine l_move rfl rfl rfl ?_
  refine v_leni rfl rfl Try.underlying66 rfl (by first | exact hw0.iarg hva | exact hw0.iarg hvb | assumption) ?_
  refine l_move rfl rfl rfl ?_
  refine v_leni rfl rfl Try.underlying66 rfl (by first | exact hw0.iarg hva | exact hw0.iarg hvb | assumption) ?_
  refine l_neq rfl rfl rfl rfl ?_
  refine l_nil ?_
  refine e_then ?_
  refine c_keep [0, 1, 14] (.cons rfl (.cons rfl (.cons rfl .nil))) ?_
  first | refine c_cond rfl (fun hc0 => ?_) (fun hc0 => ?_) | refine c_condb rfl (fun hc0 => ?_) (fun hc0 => ?_)
  · skip
    refine c_seq ?_
    refine c_seq ?_
    refine c_region ?_
    refine l_move rfl rfl rfl ?_
    refine v_leni rfl rfl Try.underlying66 rfl (by first | exact hw0.iarg hva | exact hw0.iarg hvb | assumption) ?_
    refine l_move rfl rfl rfl ?_
    refine v_leni rfl rfl Try.underlying66 rfl (by first | exact hw0.iarg hva | exact hw0.iarg hvb | assumption) ?_
    refine l_lss rfl rfl rfl rfl ?_
    refine l_nil ?_
    refine e_then ?_
    refine c_keep [19] (.cons rfl .nil) ?_
    first | refine c_cond rfl (fun hc1 => ?_) (fun hc1 => ?_) | refine c_condb rfl (fun hc1 => ?_) (fun hc1 => ?_)
    · skip
      refine c_seq ?_
      refine c_region ?_
      refine l_assign rfl rfl rfl ?_
      refine l_nil ?_
      refine e_then ?_
      refine c_keep [4] (.cons rfl .nil) ?_
      refine c_ret ?_
      refine e_then_ret ?_
      refine e_then_ret ?_
      refine e_done1 Try.results60 rfl ?_
      refine ⟨_, rfl, ?_⟩
      exact ⟨by rw [cmpI_lt (cna.lt_of_len (by omega) cnb (by omega))], hw0.grows⟩
    · skip
      refine c_skip ?_
      refine e_then ?_
      refine c_keep [] .nil ?_
      refine c_seq ?_
      refine c_region ?_
      refine l_assign rfl rfl rfl ?_
      refine l_nil ?_
      refine e_then ?_
      refine c_ret ?_
      refine e_then_ret ?_
      refine e_done1 Try.results60 rfl ?_
      refine ⟨_, rfl, ?_⟩
      exact ⟨by rw [cmpI_gt (cnb.lt_of_len (by omega) cna (by omega))], hw0.grows⟩
  · skip
    have hlen : (Ma.tr la).length = (Ma.tr lb).length := by omega
    refine c_skip ?_
    refine e_then ?_
    refine c_keep [0, 1] (.cons rfl (.cons rfl .nil)) ?_
    refine c_seq ?_
    refine c_seq ?_
    refine c_region ?_
    refine l_move rfl rfl rfl ?_
    refine v_leni rfl rfl Try.underlying66 rfl (by first | exact hw0.iarg hva | exact hw0.iarg hvb | assumption) ?_
    refine l_sub rfl rfl rfl rfl (w_i64 (by omega)) ?_
    refine l_assign rfl rfl rfl ?_
    refine l_nil ?_
    refine e_then ?_
    refine c_keep [0, 1, 5] (.cons rfl (.cons rfl (.cons rfl .nil))) ?_
    refine c_block ?_
    refine c_loopk (ι := Nat) (fun (k : Nat) => k) (fun (k : Nat) (w' : World) => St w w.heap.size None' ([]) w' ∧ k ≤ (Ma.tr la).length ∧ (Ma.tr la).drop k = (Ma.tr lb).drop k) (fun (k : Nat) => [(5, .int .i64 ((k : Int) - 1))]) [0, 1] ((Ma.tr la).length) ?_ (.cons rfl (.cons rfl .nil)) ?_ ?_
    · exact ⟨hw0, Nat.le_refl _, by rw [List.drop_length, hlen, List.drop_length]⟩
    · exact (.cons rfl (by first | rfl | (refine congrArg (Value.int _) ?_; omega)) .nil)
    rintro k w1 ⟨hw1, hk, hd⟩
    show RunC P _ _ _ (_ :: _) _
    refine c_seq ?_
    refine c_seq ?_
    refine c_region ?_
    refine l_move rfl rfl rfl ?_
    refine l_geq rfl rfl rfl rfl ?_
    refine l_nil ?_
    refine e_then ?_
    refine c_keep [0, 1, 5, 24] (.cons rfl (.cons rfl (.cons rfl (.cons rfl .nil)))) ?_
    first | refine c_cond rfl (fun hc2 => ?_) (fun hc2 => ?_) | refine c_condb rfl (fun hc2 => ?_) (fun hc2 => ?_)
    · skip
      refine c_skip ?_
      refine e_then ?_
      refine c_keep [0, 1, 5] (.cons rfl (.cons rfl (.cons rfl .nil))) ?_
      refine c_seq ?_
      refine c_block ?_
      refine c_block ?_
      refine c_seq ?_
      refine c_still (by kernel_rfl) (by kernel_rfl) ?_
      have hw2 := hw1.drewn
      try clear hw1
      refine l_move rfl rfl rfl ?_
      refine l_move rfl rfl rfl ?_
      refine v_getr (j := k - 1) rfl rfl rfl rfl Try.underlying66 tz22 Try.underlying22 rfl rfl (by first | exact hw2.iarg hva | exact hw2.iarg hvb | assumption) (by assumption) rfl (by omega) (by first | omega | (simp; done) | (simp; omega)) (fun hb9_2 => ?_)
      refine l_move rfl rfl rfl ?_
      refine l_move rfl rfl rfl ?_
      refine v_getr (j := k - 1) rfl rfl rfl rfl Try.underlying66 tz22 Try.underlying22 rfl rfl (by first | exact hw2.iarg hva | exact hw2.iarg hvb | assumption) (by assumption) rfl (by omega) (by first | omega | (simp; done) | (simp; omega)) (fun hb9_6 => ?_)
      refine l_lss rfl rfl rfl rfl ?_
      refine l_assign rfl rfl rfl ?_
      refine l_nil ?_
      refine e_then ?_
      refine c_keep [0, 1, 5, 27] (.cons rfl (.cons rfl (.cons rfl (.cons rfl .nil)))) ?_
      first | refine c_cond rfl (fun hc3 => ?_) (fun hc3 => ?_) | refine c_condb rfl (fun hc3 => ?_) (fun hc3 => ?_)
      · skip
        refine c_seq ?_
        refine c_region ?_
        refine l_assign rfl rfl rfl ?_
        refine l_nil ?_
        refine e_then ?_
        refine c_keep [4] (.cons rfl .nil) ?_
        refine c_ret ?_
        refine e_blk_ret ?_
        refine e_blk_ret ?_
        refine e_then_ret ?_
        refine e_then_ret ?_
        refine e_blk_ret ?_
        refine e_then_ret ?_
        refine e_done1 Try.results60 rfl ?_
        refine ⟨_, rfl, ?_⟩
        have hd' : (Ma.tr la).drop (k - 1 + 1) = (Ma.tr lb).drop (k - 1 + 1) := by rw [show k - 1 + 1 = k from by omega]; exact hd
        have h := Ma.vb_lt_of_top (show (0 : Int) < 18446744073709551616 by omega) hUa2.dg hUb2.dg hlen (k := k - 1) (by omega) hd' (by omega)
        rw [cna.val, cnb.val] at h
        exact ⟨by rw [cmpI_lt h], hw2.grows⟩
      · skip
        refine c_seq ?_
        refine c_still (by kernel_rfl) (by kernel_rfl) ?_
        have hw3 := hw2.drewn
        try clear hw2
        refine l_move rfl rfl rfl ?_
        refine l_move rfl rfl rfl ?_
        refine v_getr (j := k - 1) rfl rfl rfl rfl Try.underlying66 tz22 Try.underlying22 rfl rfl (by first | exact hw3.iarg hva | exact hw3.iarg hvb | assumption) (by assumption) rfl (by omega) (by first | omega | (simp; done) | (simp; omega)) (fun hb11_2 => ?_)
        refine l_move rfl rfl rfl ?_
        refine l_move rfl rfl rfl ?_
        refine v_getr (j := k - 1) rfl rfl rfl rfl Try.underlying66 tz22 Try.underlying22 rfl rfl (by first | exact hw3.iarg hva | exact hw3.iarg hvb | assumption) (by assumption) rfl (by omega) (by first | omega | (simp; done) | (simp; omega)) (fun hb11_6 => ?_)
        refine l_gtr rfl rfl rfl rfl ?_
        refine l_assign rfl rfl rfl ?_
        refine l_nil ?_
        refine e_then ?_
        refine c_keep [0, 1, 5, 37] (.cons rfl (.cons rfl (.cons rfl (.cons rfl .nil)))) ?_
        first | refine c_cond rfl (fun hc4 => ?_) (fun hc4 => ?_) | refine c_condb rfl (fun hc4 => ?_) (fun hc4 => ?_)
        · skip
          refine c_seq ?_
          refine c_region ?_
          refine l_assign rfl rfl rfl ?_
          refine l_nil ?_
          refine e_then ?_
          refine c_keep [4] (.cons rfl .nil) ?_
          refine c_ret ?_
          refine e_blk_ret ?_
          refine e_blk_ret ?_
          refine e_then_ret ?_
          refine e_then_ret ?_
          refine e_blk_ret ?_
          refine e_then_ret ?_
          refine e_done1 Try.results60 rfl ?_
          refine ⟨_, rfl, ?_⟩
          have hd' : (Ma.tr lb).drop (k - 1 + 1) = (Ma.tr la).drop (k - 1 + 1) := by rw [show k - 1 + 1 = k from by omega]; exact hd.symm
          have h := Ma.vb_lt_of_top (show (0 : Int) < 18446744073709551616 by omega) hUb2.dg hUa2.dg hlen.symm (k := k - 1) (by omega) hd' (by omega)
          rw [cna.val, cnb.val] at h
          exact ⟨by rw [cmpI_gt h], hw3.grows⟩
        · skip
          refine c_skip ?_
          refine e_blk ?_
          refine e_blk ?_
          refine e_then ?_
          refine c_keep [0, 1, 5] (.cons rfl (.cons rfl (.cons rfl .nil))) ?_
          refine c_region ?_
          refine l_move rfl rfl rfl ?_
          refine l_sub rfl rfl rfl rfl (w_i64 (by omega)) ?_
          refine l_assign rfl rfl rfl ?_
          refine l_nil ?_
          refine e_againk (i := (k)) (k - 1) ?_ ?_ (.cons rfl (.cons rfl .nil)) ?_
          · first | omega | (simp; omega)
          · have e1 := drop_split (l := Ma.tr la) (k := k - 1) (by omega)
            have e2 := drop_split (l := Ma.tr lb) (k := k - 1) (by omega)
            refine ⟨hw3, by omega, ?_⟩
            rw [e1, e2, show k - 1 + 1 = k from by omega, hd, show (Ma.tr la).getD (k - 1) 0 = (Ma.tr lb).getD (k - 1) 0 from by omega]
          · exact (.cons rfl (by first | rfl | (refine congrArg (Value.int _) ?_; omega)) .nil)
    · skip
      refine c_exit ?_
      refine e_then_exit ?_
      refine e_then_exit ?_
      refine e_blk_exit ?_
      refine e_then ?_
      refine c_keep [] .nil ?_
      refine c_seq ?_
      refine c_region ?_
      refine l_assign rfl rfl rfl ?_
      refine l_nil ?_
      refine e_then ?_
      refine c_ret ?_
      refine e_done1 Try.results60 rfl ?_
      refine ⟨_, rfl, ?_⟩
      have hk0 : k = 0 := by omega
      subst hk0
      simp only [List.drop_zero] at hd
      exact ⟨by rw [cmpI_eq (cna.val.symm.trans ((congrArg _ hd).trans cnb.val))], hw1.grows⟩
end Go.Proofs.Ytmcbdgpcbcldjaa.W
