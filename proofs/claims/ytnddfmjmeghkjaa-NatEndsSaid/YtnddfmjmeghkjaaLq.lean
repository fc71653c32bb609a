/- walk of mintagelaw02.NatBack -/
import Derived.Test.YtnddfmjmeghkjaaLn
import Derived.Test.YtnddfmjmeghkjaaLp
import Derived.Test.YtnddfmjmeghkjaaFf
import Derived.Test.YtnddfmjmeghkjaaFj
set_option linter.unusedVariables false
set_option linter.unusedSimpArgs false
set_option maxRecDepth 10000
namespace Go.Proofs.Ytnddfmjmeghkjaa.W
open Go.Vc Go.RowKit
theorem dig_isD {r : Int} (h : 0 ≤ r ∧ r ≤ 9) : isD (dig r) := by
  have := dig_toNat h
  unfold isD
  omega
theorem dt0_fact : ∀ (m n : Nat), n ≤ m → (∀ x ∈ dt0 n, isD x) ∧ pv (dt0 n) = n ∧ (dt0 n).length ≤ n
  | m, 0, _ => by rw [dt0_zero]; simp [pv]
  | 0, n + 1, h => by omega
  | m + 1, n + 1, h => by
    have ih := dt0_fact m ((n + 1) / 10) (by omega)
    rw [dt0, dif_neg (by omega)]
    have hd := dig_toNat (r := (((n + 1) % 10 : Nat) : Int)) (by omega)
    refine ⟨fun x hx => ?_, ?_, ?_⟩
    · rcases List.mem_append.1 hx with h1 | h1
      · exact ih.1 x h1
      · rw [List.mem_singleton.1 h1]; exact dig_isD (by omega)
    · rw [pv_snoc, ih.2.1, hd]; omega
    · rw [List.length_append]; have := ih.2.2; simp only [List.length_singleton]; omega
theorem dtx_fact {n : Int} (h : 0 ≤ n) : (∀ x ∈ dtx n, isD x) ∧ pv (dtx n) = n ∧ dtx n ≠ [] ∧ (dtx n).length ≤ n.toNat + 1 := by
  unfold dtx
  split
  · rename_i e
    subst e
    exact ⟨fun x hx => by rw [List.mem_singleton.1 hx]; decide, by decide, by simp, by simp⟩
  · have := dt0_fact n.toNat n.toNat (Nat.le_refl _)
    exact ⟨this.1, by rw [this.2.1]; omega, dt0_ne (by omega), by omega⟩


theorem dt0_head : ∀ (m n : Nat), n ≤ m → 0 < n → (dt0 n).length = (dt0 n).length ∧ ((dt0 n).getD 0 0).toNat ≠ 48
  | 0, n, h, h0 => by omega
  | m + 1, n, h, h0 => by
    refine ⟨rfl, ?_⟩
    rw [dt0, dif_neg (by omega)]
    rcases Nat.eq_zero_or_pos (n / 10) with h1 | h1
    · rw [h1, dt0_zero]
      have hd := dig_toNat (r := ((n % 10 : Nat) : Int)) (by omega)
      show (dig ((n % 10 : Nat) : Int)).toNat ≠ 48
      omega
    · have ih := (dt0_head m (n / 10) (by omega) h1).2
      have hne : dt0 (n / 10) ≠ [] := by
        have := dt0_ne (n := ((n / 10 : Nat) : Int)) (by omega)
        rwa [Int.toNat_natCast] at this
      have e : (dt0 (n / 10) ++ [dig ((n % 10 : Nat) : Int)]).getD 0 0 = (dt0 (n / 10)).getD 0 0 := by
        cases hc : dt0 (n / 10) with
        | nil => exact absurd hc hne
        | cons x l => rfl
      rw [e]
      exact ih
theorem dtx_head {n : Int} (h : 0 ≤ n) : ¬ (((dtx n).getD 0 0).toNat : Int) = 48 ∨ ((dtx n).length : Int) = 1 := by
  unfold dtx
  split
  · exact .inr rfl
  · exact .inl fun e => (dt0_head n.toNat n.toNat (Nat.le_refl _) (by omega)).2 (by omega)
theorem pv_noughts : ∀ i : Nat, pv (List.replicate i 48) = 0
  | 0 => rfl
  | i + 1 => by
    rw [List.replicate_succ', pv_snoc, pv_noughts i]
    decide
theorem dig_get {l : List UInt8} (h : ∀ x ∈ l, isD x) : ∀ j, j < l.length → isD (l.getD j 0) := fun j hj => by
  have : l.getD j 0 = l[j] := by simp [List.getD, hj]
  rw [this]
  exact h _ (List.getElem_mem hj)
theorem parsed_back {n : Int} (h : 0 ≤ n) (hb : Ma.blen n ≤ 8192) (i : Nat) : parsed (List.replicate i 48 ++ dtx n) = (0, n) := by
  have hf := dtx_fact h
  have e : pv (List.replicate i 48 ++ dtx n) = n := by rw [pv_append _ _ _ rfl, pv_noughts, Int.zero_mul, Int.zero_add, hf.2.1]
  have := parsed_ok (t := List.replicate i 48 ++ dtx n) (fun h0 => hf.2.2.1 (List.append_eq_nil_iff.1 h0).2) (dig_get fun x hx => (List.mem_append.1 hx).elim (fun h1 => by rw [List.eq_of_mem_replicate h1]; decide) (hf.1 x)) (by rw [e]; exact hb)
  rw [this, e]
theorem dtx_len {n : Int} (h : 0 ≤ n) : ((dtx n).length : Int) ≤ Ma.blen n + 1 := by
  unfold dtx
  split
  · have := Ma.blen_nonneg n
    simp only [List.length_cons, List.length_nil]
    omega
  · have := dt0_len n.toNat n h (Nat.le_refl _)
    omega
theorem parseZ {n : Int} (h : 0 ≤ n) (hb : Ma.blen n ≤ 8192) (i : Nat) (hi : i ≤ 50) (w : World) : CallsV P 21 [str (List.replicate i 48 ++ dtx n)] w fun r w' => ∃ v ls, r = .tuple #[v, .int .i64 0] ∧ Ma.Cn 18446744073709551616 ls n ∧ Grow w w' [As.ri 22 .u64 v ls] := by
  have hl := dtx_len h
  refine (parseN _ (by rw [List.length_append, List.length_replicate]; omega) w).mono ?_
  intro r w' hr
  rw [parsed_back h hb] at hr
  exact hr
theorem quo_back {a b : Int} (ha : 0 ≤ a) (hb : 0 < b) : 0 ≤ a / b ∧ a / b ≤ a ∧ a / b * b + a % b = a ∧ a / b * b ≤ a ∧ 0 ≤ a / b * b ∧ 0 ≤ a % b ∧ a % b < b := by
  have e := Int.emod_add_mul_ediv a b
  rw [Int.mul_comm] at e
  have h1 := Int.emod_nonneg a (show b ≠ 0 by omega)
  have h2 := Int.emod_lt_of_pos a hb
  have h3 := Int.ediv_nonneg ha (Int.le_of_lt hb)
  have h4 := Int.mul_nonneg h3 (Int.le_of_lt hb)
  have h5 : a / b ≤ a := Int.ediv_le_self _ ha
  omega

theorem natBackL (a b : Value) (la lb : List Int) (hUa : U la) (hUb : U lb) (n : Int) (hn : -9223372036854775808 ≤ n ∧ n ≤ 9223372036854775807) (w : World) (ha : IV w a (ints .u64 la)) (hb : IV w b (ints .u64 lb)) :
    CallsV P 8 [a, b, .int .i64 n] w fun r w' => r = .bool true ∧ Grow w w' [] := by
  refine enterW Try.func8 rfl Try.ntmps8 rfl ?_
  have hw0 := St.start w
  refine c_seq ?_
  refine c_region ?_
  refine l_assign rfl rfl rfl ?_
  refine l_nil ?_
  refine e_then ?_
  refine c_keep [0, 1, 2] (.cons rfl (.cons rfl (.cons rfl .nil))) ?_
  refine c_seq ?_
  refine c_region ?_
  refine l_move rfl rfl rfl ?_
  refine l_call rfl rfl Try.func20 rfl rfl (.cons rfl .nil) (cutL a la w ha) ?_
  rintro va _ ⟨hv1, rfl⟩
  have hma0 : U (la.take 140) := fun x hx => hUa x (List.mem_of_mem_take hx)
  have lma0 : (la.take 140).length ≤ 140 := by rw [List.length_take]; omega
  generalize hmae : la.take 140 = ma at hv1 hma0 lma0
  have hma : U ma := hma0
  have lma : ma.length ≤ 140 := lma0
  refine l_move rfl rfl rfl ?_
  refine l_call rfl rfl Try.func20 rfl rfl (.cons rfl .nil) (cutL b lb w hb) ?_
  rintro vb _ ⟨hv2, rfl⟩
  have hmb0 : U (lb.take 140) := fun x hx => hUb x (List.mem_of_mem_take hx)
  have lmb0 : (lb.take 140).length ≤ 140 := by rw [List.length_take]; omega
  generalize hmbe : lb.take 140 = mb at hv2 hmb0 lmb0
  have hmb : U mb := hmb0
  have lmb : mb.length ≤ 140 := lmb0
  refine l_assign rfl rfl rfl ?_
  refine l_assign rfl rfl rfl ?_
  refine l_nil ?_
  refine e_then ?_
  refine c_keep [0, 1, 2] (.cons rfl (.cons rfl (.cons rfl .nil))) ?_
  refine c_seq ?_
  refine c_seq ?_
  refine c_region ?_
  refine l_move rfl rfl rfl ?_
  refine l_callp rfl rfl Try.func37 rfl rfl (.cons rfl .nil) (lenV va ma hma (by omega) w (hw0.iarg hv1)) ?_
  refine l_gtr rfl rfl rfl rfl ?_
  refine l_move rfl rfl rfl ?_
  apply l_or 3 [0, 1, 2] rfl rfl (.cons rfl (.cons rfl (.cons rfl (.cons rfl .nil)))) rfl rfl (fun _ => rfl) rfl rfl rfl
  · intro hg2_4
    refine l_move rfl rfl rfl ?_
    refine l_callp rfl rfl Try.func37 rfl rfl (.cons rfl .nil) (lenV vb mb hmb (by omega) w (hw0.iarg hv2)) ?_
    refine l_gtr rfl rfl rfl rfl ?_
    refine l_nil ?_
    exact e_stays rfl (.cons rfl (congrArg Value.bool (decide_eq_false hg2_4).symm) (.cons rfl rfl (.cons rfl rfl (.cons rfl rfl .nil))))
  refine l_nil ?_
  refine e_then ?_
  refine c_keep [0, 1, 2, 30] (.cons rfl (.cons rfl (.cons rfl (.cons rfl .nil)))) ?_
  first | refine c_cond rfl (fun hc0 => ?_) (fun hc0 => ?_) | refine c_condb rfl (fun hc0 => ?_) (fun hc0 => ?_)
  · skip
    refine c_seq ?_
    refine c_region ?_
    refine l_call rfl rfl Try.func19 rfl rfl .nil (wakesL w) ?_
    rintro _ w1 ⟨rfl, hG⟩
    have hw1 := hG _ _ _ _ hw0
    try clear hG hw0
    simp only [List.cons_append, List.nil_append] at hw1
    refine l_assign rfl rfl rfl ?_
    refine l_nil ?_
    refine e_then ?_
    refine c_keep [6] (.cons rfl .nil) ?_
    refine c_ret ?_
    refine e_then_ret ?_
    refine e_done1 Try.results8 rfl ?_
    refine ⟨_, rfl, ?_⟩
    exact ⟨rfl, hw1.grows⟩
  · skip
    have hA0 := hma.nv_nonneg
    have hB0 := hmb.nv_nonneg
    have hbA : Ma.blen (nv ma) ≤ 8000 := by omega
    have hbB : Ma.blen (nv mb) ≤ 8000 := by omega
    refine c_skip ?_
    refine e_then ?_
    refine c_keep [0, 1, 2] (.cons rfl (.cons rfl (.cons rfl .nil))) ?_
    refine c_seq ?_
    refine c_region ?_
    refine l_move rfl rfl rfl ?_
    refine l_move rfl rfl rfl ?_
    refine l_call rfl rfl Try.func34 rfl rfl (.cons rfl (.cons rfl .nil)) (divModN _ _ ma mb hma hmb (by omega) (by omega) w (hw0.iarg hv1) (hw0.iarg hv2)) ?_
    rintro _ w2 ⟨vq, vr, lq, lr, rfl, hq, hr, hG⟩
    have hw2 := hG _ _ _ _ hw0
    try clear hG hw0
    simp only [List.cons_append, List.nil_append] at hw2
    refine l_move rfl rfl rfl ?_
    refine l_extract rfl rfl rfl rfl ?_
    refine l_extract rfl rfl rfl rfl ?_
    refine l_extract rfl rfl rfl rfl ?_
    refine l_assign rfl rfl rfl ?_
    refine l_assign rfl rfl rfl ?_
    refine l_assign rfl rfl rfl ?_
    refine l_nil ?_
    refine e_then ?_
    refine c_keep [0, 1, 2, 7, 8, 9] (.cons rfl (.cons rfl (.cons rfl (.cons rfl (.cons rfl (.cons rfl .nil)))))) ?_
    refine c_seq ?_
    refine c_seq ?_
    refine c_region ?_
    refine l_move rfl rfl rfl ?_
    refine l_callp rfl rfl Try.func37 rfl rfl (.cons rfl .nil) (lenV vb mb hmb (by omega) w2 (hw2.iarg hv2)) ?_
    refine l_eql rfl rfl rfl rfl ?_
    refine l_nil ?_
    refine e_then ?_
    refine c_keep [0, 1, 2, 7, 8, 9, 41] (.cons rfl (.cons rfl (.cons rfl (.cons rfl (.cons rfl (.cons rfl (.cons rfl .nil))))))) ?_
    first | refine c_cond rfl (fun hc1 => ?_) (fun hc1 => ?_) | refine c_condb rfl (fun hc1 => ?_) (fun hc1 => ?_)
    · skip
      have hz : nv mb = 0 := by
        rcases Int.lt_or_eq_of_le hB0 with h | h
        · have := Ma.blen_pos h; omega
        · exact h.symm
      have hdz : divS (nv ma) (nv mb) = (22, 0, 0) := by unfold divS; rw [if_neg (by omega), if_pos hz]
      rw [hdz] at hq hr ⊢
      have hlq : lq = [] := (hq.nil_iff (by omega)).2 rfl
      have hlr : lr = [] := (hr.nil_iff (by omega)).2 rfl
      subst hlq hlr
      refine c_seq ?_
      refine c_region ?_
      refine l_move rfl rfl rfl ?_
      refine l_callp rfl rfl Try.func12 rfl rfl (.cons rfl .nil) (numL _ _) ?_
      refine l_eql rfl rfl rfl rfl ?_
      refine l_turn (s := 44) (v' := .bool true) rfl (by rfl) ?_
      refine l_move rfl rfl rfl ?_
      refine l_move rfl rfl rfl ?_
      refine v_leni rfl rfl Try.underlying25 rfl (by first | exact hw2.io mem0 | exact hw2.io mem1 | exact hw2.iarg ha | exact hw2.iarg hb | exact hw2.iarg hv1 | exact hw2.iarg hv2 | assumption) ?_
      refine l_eql rfl rfl rfl rfl ?_
      refine l_turn (s := 48) (v' := .bool true) rfl (by rfl) ?_
      refine l_pick_t rfl rfl rfl rfl ?_
      refine l_move rfl rfl rfl ?_
      refine l_move rfl rfl rfl ?_
      refine v_leni rfl rfl Try.underlying25 rfl (by first | exact hw2.io mem0 | exact hw2.io mem1 | exact hw2.iarg ha | exact hw2.iarg hb | exact hw2.iarg hv1 | exact hw2.iarg hv2 | assumption) ?_
      refine l_eql rfl rfl rfl rfl ?_
      refine l_turn (s := 53) (v' := .bool true) rfl (by rfl) ?_
      refine l_pick_t rfl rfl rfl rfl ?_
      refine l_move rfl rfl rfl ?_
      refine l_call rfl rfl Try.func19 rfl rfl .nil (wakesL w2) ?_
      rintro _ w3 ⟨rfl, hG⟩
      have hw3 := hG _ _ _ _ hw2
      try clear hG hw2
      simp only [List.cons_append, List.nil_append] at hw3
      refine l_turn (s := 56) (v' := .bool true) rfl (by rfl) ?_
      refine l_pick_t rfl rfl rfl rfl ?_
      refine l_assign rfl rfl rfl ?_
      refine l_nil ?_
      refine e_then ?_
      refine c_keep [6] (.cons rfl .nil) ?_
      refine c_ret ?_
      refine e_then_ret ?_
      refine e_done1 Try.results8 rfl ?_
      refine ⟨_, rfl, ?_⟩
      have hw4 := St.del (.tail .head) hw3
      try clear hw3
      have hw5 := St.del .head hw4
      try clear hw4
      exact ⟨rfl, hw5.grows⟩
    · skip
      have hbz : nv mb ≠ 0 := fun h => by rw [h] at hc1; exact hc1 Ma.blen_zero
      have hbp : 0 < nv mb := by omega
      have hdz : divS (nv ma) (nv mb) = (0, nv ma / nv mb, nv ma % nv mb) := by unfold divS; rw [if_neg (by omega), if_neg hbz]
      rw [hdz] at hq hr ⊢
      have hqb := quo_back hA0 hbp
      have b1 := Ma.blen_mono hqb.1 hqb.2.1
      have b2 := Ma.blen_mono hqb.2.2.2.2.1 hqb.2.2.2.1
      have b3 := Ma.blen_mono hqb.2.2.2.2.2.1 (Int.le_of_lt hqb.2.2.2.2.2.2)
      have llq := cn_len hq (k := 8192) (by show Ma.blen (nv ma / nv mb) ≤ _; omega)
      have llr := cn_len hr (k := 8192) (by show Ma.blen (nv ma % nv mb) ≤ _; omega)
      have eq : nv lq = nv ma / nv mb := hq.val
      have er : nv lr = nv ma % nv mb := hr.val
      refine c_skip ?_
      refine e_then ?_
      refine c_keep [0, 1, 2, 7, 8, 9] (.cons rfl (.cons rfl (.cons rfl (.cons rfl (.cons rfl (.cons rfl .nil)))))) ?_
      refine c_seq ?_
      refine c_region ?_
      refine l_move rfl rfl rfl ?_
      refine l_move rfl rfl rfl ?_
      refine l_call rfl rfl Try.func30 rfl rfl (.cons rfl (.cons rfl .nil)) (mulS (cnU hq) hmb (by omega) (by omega) (by rw [eq]; omega) (by omega) (by rw [eq]; omega) (hw2.io mem0) (hw2.iarg hv2)) ?_
      rintro _ w6 ⟨vp, lp, rfl, hp, hG⟩
      have hw6 := hG _ _ _ _ hw2
      try clear hG hw2
      simp only [List.cons_append, List.nil_append] at hw6
      refine l_move rfl rfl rfl ?_
      refine l_extract rfl rfl rfl rfl ?_
      refine l_extract rfl rfl rfl rfl ?_
      refine l_assign rfl rfl rfl ?_
      refine l_assign rfl rfl rfl ?_
      refine l_nil ?_
      refine e_then ?_
      refine c_keep [0, 1, 2, 8, 9, 10, 11] (.cons rfl (.cons rfl (.cons rfl (.cons rfl (.cons rfl (.cons rfl (.cons rfl .nil))))))) ?_
      refine c_seq ?_
      refine c_region ?_
      have ep : nv lp = nv ma / nv mb * nv mb := by rw [← eq]; exact hp.val
      have llp := cn_len hp (k := 8192) (by rw [eq]; omega)
      refine l_move rfl rfl rfl ?_
      refine l_move rfl rfl rfl ?_
      refine l_call rfl rfl Try.func29 rfl rfl (.cons rfl (.cons rfl .nil)) (addS (cnU hp) (cnU hr) (by omega) (by omega) (by rw [ep]; omega) (by rw [er]; omega) (by rw [ep, er, hqb.2.2.1]; omega) (hw6.io mem0) (hw6.io mem2)) ?_
      rintro _ w7 ⟨vs, ls, rfl, hs, hG⟩
      have hw7 := hG _ _ _ _ hw6
      try clear hG hw6
      simp only [List.cons_append, List.nil_append] at hw7
      refine l_move rfl rfl rfl ?_
      refine l_extract rfl rfl rfl rfl ?_
      refine l_extract rfl rfl rfl rfl ?_
      refine l_assign rfl rfl rfl ?_
      refine l_assign rfl rfl rfl ?_
      refine l_nil ?_
      refine e_then ?_
      refine c_keep [0, 1, 2, 8, 9, 11, 12, 13] (.cons rfl (.cons rfl (.cons rfl (.cons rfl (.cons rfl (.cons rfl (.cons rfl (.cons rfl .nil)))))))) ?_
      refine c_seq ?_
      refine c_seq ?_
      refine c_region ?_
      have es : nv ls = nv ma := by rw [← hqb.2.2.1, ← ep, ← er]; exact hs.val
      have lls := cn_len hs (k := 8192) (by rw [ep, er, hqb.2.2.1]; omega)
      refine l_move rfl rfl rfl ?_
      refine l_callp rfl rfl Try.func12 rfl rfl (.cons rfl .nil) (numL _ _) ?_
      refine l_neq rfl rfl rfl rfl ?_
      refine l_turn (s := 72) (v' := .bool false) rfl (by simp) ?_
      refine l_move rfl rfl rfl ?_
      refine l_move rfl rfl rfl ?_
      refine l_callp rfl rfl Try.func12 rfl rfl (.cons rfl .nil) (numL _ _) ?_
      refine l_neq rfl rfl rfl rfl ?_
      refine l_turn (s := 76) (v' := .bool false) rfl (by simp) ?_
      refine l_pick_f rfl rfl rfl rfl ?_
      refine l_move rfl rfl rfl ?_
      refine l_move rfl rfl rfl ?_
      refine l_callp rfl rfl Try.func12 rfl rfl (.cons rfl .nil) (numL _ _) ?_
      refine l_neq rfl rfl rfl rfl ?_
      refine l_turn (s := 81) (v' := .bool false) rfl (by simp) ?_
      refine l_pick_f rfl rfl rfl rfl ?_
      refine l_move rfl rfl rfl ?_
      refine l_move rfl rfl rfl ?_
      refine l_move rfl rfl rfl ?_
      refine l_call rfl rfl Try.func33 rfl rfl (.cons rfl (.cons rfl .nil)) (cmpN _ _ ls ma (cnU hs) hma (by omega) (by omega) w7 (hw7.io mem0) (hw7.iarg hv1)) ?_
      rintro _ w8 ⟨rfl, hG⟩
      have hw8 := hG _ _ _ _ hw7
      try clear hG hw7
      simp only [List.cons_append, List.nil_append] at hw8
      refine l_neq rfl rfl rfl rfl ?_
      refine l_turn (s := 87) (v' := .bool false) rfl (by exact congrArg Value.bool (decide_eq_false (by rw [cmpI_eq es]; simp))) ?_
      refine l_pick_f rfl rfl rfl rfl ?_
      refine l_move rfl rfl rfl ?_
      refine l_move rfl rfl rfl ?_
      refine l_move rfl rfl rfl ?_
      refine l_call rfl rfl Try.func33 rfl rfl (.cons rfl (.cons rfl .nil)) (cmpN _ _ lr mb (cnU hr) hmb (by omega) (by omega) w8 (hw8.io mem3) (hw8.iarg hv2)) ?_
      rintro _ w9 ⟨rfl, hG⟩
      have hw9 := hG _ _ _ _ hw8
      try clear hG hw8
      simp only [List.cons_append, List.nil_append] at hw9
      refine l_geq rfl rfl rfl rfl ?_
      refine l_turn (s := 93) (v' := .bool false) rfl (by exact congrArg Value.bool (decide_eq_false (by rw [er, cmpI_lt hqb.2.2.2.2.2.2]; omega))) ?_
      refine l_pick_f rfl rfl rfl rfl ?_
      refine l_nil ?_
      refine e_then ?_
      refine c_keep [0, 2, 94] (.cons rfl (.cons rfl (.cons rfl .nil))) ?_
      refine c_cond_f rfl rfl ?_
      refine c_skip ?_
      refine e_then ?_
      refine c_keep [0, 2] (.cons rfl (.cons rfl .nil)) ?_
      refine c_seq ?_
      refine c_region ?_
      refine l_move rfl rfl rfl ?_
      refine l_call rfl rfl Try.func23 rfl rfl (.cons rfl .nil) (textN va ma hma (by omega) w9 (hw9.iarg hv1)) ?_
      rintro _ w10 ⟨rfl, hG⟩
      have hw10 := hG _ _ _ _ hw9
      try clear hG hw9
      simp only [List.cons_append, List.nil_append] at hw10
      have hw11 := St.del (.tail (.tail .head)) hw10
      try clear hw10
      have hw12 := St.del (.tail (.tail .head)) hw11
      try clear hw11
      have hw13 := St.del (.tail .head) hw12
      try clear hw12
      have hw14 := St.del .head hw13
      try clear hw13
      refine l_assign rfl rfl rfl ?_
      refine l_nil ?_
      refine e_then ?_
      refine c_keep [0, 2, 14] (.cons rfl (.cons rfl (.cons rfl .nil))) ?_
      refine c_seq ?_
      refine c_region ?_
      refine l_assign rfl rfl rfl ?_
      refine l_nil ?_
      refine e_then ?_
      refine c_seq ?_
      refine c_seq ?_
      refine c_region ?_
      refine l_assign rfl rfl rfl ?_
      refine l_nil ?_
      refine e_then ?_
      refine c_block ?_
      refine c_loopk (ι := Nat) (fun (i : Nat) => 50 - i) (fun (i : Nat) (w' : World) => St w w.heap.size None' ([]) w' ∧ i ≤ 50) (fun (i : Nat) => [(15, str (List.replicate i 48)), (16, .int .i64 (i : Int))]) [0, 2, 14] (0) ?_ (.cons rfl (.cons rfl (.cons rfl .nil))) ?_ ?_
      · exact ⟨hw14, by omega⟩
      · exact (.cons rfl (by first | rfl | (refine congrArg (Value.int _) ?_; omega)) (.cons rfl (by first | rfl | (refine congrArg (Value.int _) ?_; omega)) .nil))
      rintro i w15 ⟨hw15, hi1⟩
      show RunC P _ _ _ (_ :: _) _
      have hrl : (List.replicate i (48 : UInt8)).length = i := List.length_replicate
      refine c_seq ?_
      refine c_seq ?_
      refine c_region ?_
      refine l_move rfl rfl rfl ?_
      refine l_move rfl rfl rfl ?_
      refine l_lss rfl rfl rfl rfl ?_
      refine l_move rfl rfl rfl ?_
      apply l_and 2 [0, 2, 14, 15, 16] rfl rfl (.cons rfl (.cons rfl (.cons rfl (.cons rfl (.cons rfl (.cons rfl .nil)))))) rfl rfl (fun _ => rfl) rfl rfl rfl
      · intro hg14_4
        refine l_move rfl rfl rfl ?_
        refine l_lss rfl rfl rfl rfl ?_
        refine l_nil ?_
        exact e_stays rfl (.cons rfl (congrArg Value.bool (decide_eq_true hg14_4).symm) (.cons rfl rfl (.cons rfl rfl (.cons rfl rfl (.cons rfl rfl (.cons rfl rfl .nil))))))
      refine l_nil ?_
      refine e_then ?_
      refine c_keep [0, 2, 14, 15, 16, 103] (.cons rfl (.cons rfl (.cons rfl (.cons rfl (.cons rfl (.cons rfl .nil)))))) ?_
      first | refine c_cond rfl (fun hc3 => ?_) (fun hc3 => ?_) | refine c_condb rfl (fun hc3 => ?_) (fun hc3 => ?_)
      · skip
        refine c_skip ?_
        refine e_then ?_
        refine c_keep [0, 2, 14, 15, 16] (.cons rfl (.cons rfl (.cons rfl (.cons rfl (.cons rfl .nil))))) ?_
        refine c_seq ?_
        refine c_block ?_
        refine c_region ?_
        refine l_move rfl rfl rfl ?_
        refine l_adds rfl rfl rfl rfl (by first | omega | (simp only [List.length_append, List.length_cons, List.length_nil] at *; omega)) ?_
        refine l_assign rfl rfl rfl ?_
        refine l_nil ?_
        refine e_blk ?_
        refine e_then ?_
        refine c_keep [0, 2, 14, 15, 16] (.cons rfl (.cons rfl (.cons rfl (.cons rfl (.cons rfl .nil))))) ?_
        refine c_region ?_
        refine l_move rfl rfl rfl ?_
        refine l_add rfl rfl rfl rfl (w_i64 (by omega)) ?_
        refine l_assign rfl rfl rfl ?_
        refine l_nil ?_
        refine e_againk (i := (i)) (i + 1) ?_ ?_ (.cons rfl (.cons rfl (.cons rfl .nil))) ?_
        · first | omega | (simp; omega)
        · exact ⟨hw15, by omega⟩
        · exact (.cons rfl (by exact congrArg str (List.replicate_succ' ..).symm) (.cons rfl (by first | rfl | (refine congrArg (Value.int _) ?_; omega)) .nil))
      · skip
        refine c_exit ?_
        refine e_then_exit ?_
        refine e_then_exit ?_
        refine e_blk_exit ?_
        refine e_then ?_
        refine c_keep [0, 14, 15] (.cons rfl (.cons rfl (.cons rfl .nil))) ?_
        refine c_seq ?_
        refine c_region ?_
        have hdl := dtx_len hA0
        have hrl2 : (List.replicate i (48 : UInt8)).length = i := List.length_replicate
        refine l_move rfl rfl rfl ?_
        refine l_move rfl rfl rfl ?_
        refine l_adds rfl rfl rfl rfl (by first | omega | (simp only [List.length_append, List.length_cons, List.length_nil] at *; omega)) ?_
        refine l_call rfl rfl Try.func21 rfl rfl (.cons rfl .nil) (parseZ hA0 (by omega) i hi1 w15) ?_
        rintro _ w16 ⟨vx, lx, rfl, hx, hG⟩
        have hw16 := hG _ _ _ _ hw15
        try clear hG hw15
        simp only [List.cons_append, List.nil_append] at hw16
        refine l_move rfl rfl rfl ?_
        refine l_extract rfl rfl rfl rfl ?_
        refine l_extract rfl rfl rfl rfl ?_
        refine l_assign rfl rfl rfl ?_
        refine l_assign rfl rfl rfl ?_
        refine l_nil ?_
        refine e_then ?_
        refine c_keep [0, 14, 17, 18] (.cons rfl (.cons rfl (.cons rfl (.cons rfl .nil)))) ?_
        refine c_seq ?_
        refine c_region ?_
        have llx := cn_len hx (k := 8192) (by omega)
        have htx := dtx_fact hA0
        have htl : 0 < (dtx (nv ma)).length := List.length_pos_iff.2 htx.2.2.1
        refine l_move rfl rfl rfl ?_
        refine l_callp rfl rfl Try.func12 rfl rfl (.cons rfl .nil) (numL _ _) ?_
        refine l_eql rfl rfl rfl rfl ?_
        refine l_turn (s := 117) (v' := .bool true) rfl (by rfl) ?_
        refine l_move rfl rfl rfl ?_
        refine l_move rfl rfl rfl ?_
        refine l_move rfl rfl rfl ?_
        refine l_call rfl rfl Try.func33 rfl rfl (.cons rfl (.cons rfl .nil)) (cmpN _ _ lx ma (cnU hx) hma (by omega) (by omega) w16 (hw16.io mem0) (hw16.iarg hv1)) ?_
        rintro _ w17 ⟨rfl, hG⟩
        have hw17 := hG _ _ _ _ hw16
        try clear hG hw16
        simp only [List.cons_append, List.nil_append] at hw17
        refine l_eql rfl rfl rfl rfl ?_
        refine l_turn (s := 122) (v' := .bool true) rfl (by exact congrArg Value.bool (decide_eq_true (cmpI_eq hx.val))) ?_
        refine l_pick_t rfl rfl rfl rfl ?_
        refine l_move rfl rfl rfl ?_
        refine l_move rfl rfl rfl ?_
        refine l_lenstr rfl rfl Try.underlying9 rfl ?_
        refine l_gtr rfl rfl rfl rfl ?_
        refine l_turn (s := 127) (v' := .bool true) rfl (by exact congrArg Value.bool (decide_eq_true (by omega))) ?_
        refine l_pick_t rfl rfl rfl rfl ?_
        refine l_move rfl rfl rfl ?_
        refine l_move rfl rfl rfl ?_
        refine v_gets (j := 0) rfl rfl Try.underlying9 rfl rfl rfl (by first | omega | (simp; omega) | (simp; done)) (fun hb18_16 => ?_)
        refine l_neq rfl rfl rfl rfl ?_
        refine l_move rfl rfl rfl ?_
        apply l_or 3 [129] rfl rfl (.cons rfl (.cons rfl .nil)) rfl rfl (fun _ => rfl) rfl rfl rfl
        · intro hg18_19
          refine l_move rfl rfl rfl ?_
          refine l_lenstr rfl rfl Try.underlying9 rfl ?_
          refine l_eql rfl rfl rfl rfl ?_
          refine l_nil ?_
          exact e_stays rfl (.cons rfl (congrArg Value.bool (decide_eq_false hg18_19).symm) (.cons rfl rfl .nil))
        refine l_turn (s := 137) (v' := .bool true) rfl (by exact congrArg Value.bool (decide_eq_true (dtx_head hA0))) ?_
        refine l_pick_t rfl rfl rfl rfl ?_
        refine l_move rfl rfl rfl ?_
        refine l_call rfl rfl Try.func19 rfl rfl .nil (wakesL w17) ?_
        rintro _ w18 ⟨rfl, hG⟩
        have hw18 := hG _ _ _ _ hw17
        try clear hG hw17
        simp only [List.cons_append, List.nil_append] at hw18
        refine l_turn (s := 140) (v' := .bool true) rfl (by rfl) ?_
        refine l_pick_t rfl rfl rfl rfl ?_
        refine l_assign rfl rfl rfl ?_
        refine l_nil ?_
        refine e_then ?_
        refine c_keep [6] (.cons rfl .nil) ?_
        refine c_ret ?_
        refine e_done1 Try.results8 rfl ?_
        refine ⟨_, rfl, ?_⟩
        have hw19 := St.del .head hw18
        try clear hw18
        exact ⟨rfl, hw19.grows⟩
end Go.Proofs.Ytnddfmjmeghkjaa.W
