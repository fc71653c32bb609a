/- walk of NatRing -/
import Derived.Test.YtnddfmjmeghkjaaLb
import Derived.Test.YtnddfmjmeghkjaaRe
set_option linter.unusedVariables false
set_option linter.unusedSimpArgs false
set_option maxRecDepth 10000
namespace Go.Proofs.Ytnddfmjmeghkjaa.W
open Go.Vc Go.RowKit

theorem and_1023 {n : Int} (h : -9223372036854775808 ≤ n ∧ n ≤ 9223372036854775807) : bitw .and .i64 n 1023 = n % 1024 := by
  have e : (BitVec.ofInt IntKind.i64.bits n &&& BitVec.ofInt IntKind.i64.bits 1023).toNat = (n % 18446744073709551616).toNat % 1024 := by
    show (BitVec.ofInt 64 n &&& BitVec.ofInt 64 1023).toNat = _
    rw [BitVec.toNat_and, toNat_ofInt64 (m := 1023) (by omega), BitVec.toNat_ofInt]
    exact Nat.and_two_pow_sub_one_eq_mod (n % 18446744073709551616).toNat 10
  show IntKind.i64.wrap _ = _
  rw [e, w_i64 (by omega)]
  omega
theorem addS {a b : Value} {la lb : List Int} (hUa : U la) (hUb : U lb) (hLa : la.length ≤ 1099511627776) (hLb : lb.length ≤ 1099511627776) (h1 : Ma.blen (nv la) ≤ 8192) (h2 : Ma.blen (nv lb) ≤ 8192) (h3 : Ma.blen (nv la + nv lb) ≤ 8192) {w : World} (ha : IV w a (ints .u64 la)) (hb : IV w b (ints .u64 lb)) :
    CallsV P 29 [a, b] w fun r w' => ∃ v ls, r = .tuple #[v, .int .i64 0] ∧ Ma.Cn 18446744073709551616 ls (nv la + nv lb) ∧ Grow w w' [As.ri 22 .u64 v ls] := by
  refine (addN a b la lb hUa hUb hLa hLb w ha hb).mono ?_
  intro r w' h
  have hn : ¬ (8192 < Ma.blen (nv la) ∨ 8192 < Ma.blen (nv lb) ∨ 8192 < Ma.blen (nv la + nv lb)) := by omega
  rw [if_neg hn, if_neg hn] at h
  exact h
theorem mulS {a b : Value} {la lb : List Int} (hUa : U la) (hUb : U lb) (hLa : la.length ≤ 1099511627776) (hLb : lb.length ≤ 1099511627776) (h1 : Ma.blen (nv la) ≤ 8192) (h2 : Ma.blen (nv lb) ≤ 8192) (h3 : Ma.blen (nv la * nv lb) ≤ 8192) {w : World} (ha : IV w a (ints .u64 la)) (hb : IV w b (ints .u64 lb)) :
    CallsV P 30 [a, b] w fun r w' => ∃ v ls, r = .tuple #[v, .int .i64 0] ∧ Ma.Cn 18446744073709551616 ls (nv la * nv lb) ∧ Grow w w' [As.ri 22 .u64 v ls] := by
  refine (mulN a b la lb hUa hUb hLa hLb w ha hb).mono ?_
  intro r w' h
  have hn : ¬ (8192 < Ma.blen (nv la) ∨ 8192 < Ma.blen (nv lb) ∨ 8192 < Ma.blen (nv la * nv lb)) := by omega
  rw [if_neg hn, if_neg hn] at h
  exact h
theorem blen_two (k : Nat) : Ma.blen (2 ^ k) ≤ (k + 1 : Nat) := by
  have hp := Ma.pow_pos (show (0 : Int) < 2 by omega) k
  refine (Ma.blen_le_iff (by omega) (k + 1)).2 ?_
  rw [Int.pow_succ]
  omega
theorem powC {k : Nat} (hk : k ≤ 1023) {w : World} : CallsV P 10 [.int .u64 2, .int .i64 (k : Int)] w fun r w' => ∃ v ls, r = .tuple #[v, .int .i64 0] ∧ Ma.Cn 18446744073709551616 ls (2 ^ k) ∧ Grow w w' [As.ri 22 .u64 v ls] := by
  refine (powN 2 k (by omega) (by omega) w).mono ?_
  intro r w' h
  have hb := blen_two k
  rw [powS_ok (by omega) (by rw [Int.toNat_natCast]; omega), Int.toNat_natCast] at h
  exact h
theorem shlC {a : Value} {la : List Int} (hUa : U la) (hLa : la.length ≤ 40) {k : Nat} (hk : k ≤ 1023) {w : World} (ha : IV w a (ints .u64 la)) :
    CallsV P 31 [a, .int .i64 (k : Int)] w fun r w' => ∃ v ls, r = .tuple #[v, .int .i64 0] ∧ Ma.Cn 18446744073709551616 ls (nv la * 2 ^ k) ∧ Grow w w' [As.ri 22 .u64 v ls] := by
  refine (ShlN a la hUa (by omega) k w ha).mono ?_
  intro r w' h
  have hb := nv_blen hUa
  have e : shlS (nv la) k = (0, nv la * 2 ^ k) := by
    unfold shlS
    rw [if_neg (by omega), if_neg (by omega), if_neg (show ¬ 8192 - Ma.blen (nv la) < (k : Int) by omega), Int.toNat_natCast]
    split
    · rename_i h0; rw [h0, Int.zero_mul]
    · rfl
  rw [e] at h
  exact h
theorem shrC {a : Value} {la : List Int} {X : Int} (hX : 0 ≤ X) {k : Nat} (hcn : Ma.Cn 18446744073709551616 la (X * 2 ^ k)) (hb : Ma.blen (X * 2 ^ k) ≤ 8192) {w : World} (ha : IV w a (ints .u64 la)) :
    CallsV P 32 [a, .int .i64 (k : Int)] w fun r w' => ∃ v ls, r = .tuple #[v, .bool false, .int .i64 0] ∧ Ma.Cn 18446744073709551616 ls X ∧ Grow w w' [As.ri 22 .u64 v ls] := by
  have hl := cn_len hcn (k := 8192) hb
  have hp := Ma.pow_pos (show (0 : Int) < 2 by omega) k
  refine (ShrN a la (U.of_dg hcn.dg) (by omega) k w ha).mono ?_
  intro r w' h
  have e : shrS (nv la) k = (0, X, false) := by
    unfold shrS
    rw [show nv la = X * 2 ^ k from hcn.val, if_neg (by omega), if_neg (by omega), Int.toNat_natCast, Int.mul_ediv_cancel _ (by omega), Int.mul_emod_left]
    simp
  rw [e] at h
  exact h

theorem natRingL (a b c : Value) (la lb lc : List Int) (hUa : U la) (hUb : U lb) (hUc : U lc) (n : Int) (hn : -9223372036854775808 ≤ n ∧ n ≤ 9223372036854775807) (w : World) (ha : IV w a (ints .u64 la)) (hb : IV w b (ints .u64 lb)) (hc : IV w c (ints .u64 lc)) :
    CallsV P 6 [a, b, c, .int .i64 n] w fun r w' => r = .bool true ∧ Grow w w' [] := by
  refine enterW Try.func6 rfl Try.ntmps6 rfl ?_
  have hw0 := St.start w
  refine c_seq ?_
  refine c_region ?_
  refine l_assign rfl rfl rfl ?_
  refine l_nil ?_
  refine e_then ?_
  refine c_keep [0, 1, 2, 3] (.cons rfl (.cons rfl (.cons rfl (.cons rfl .nil)))) ?_
  refine c_seq ?_
  refine c_seq ?_
  refine c_region ?_
  refine l_move rfl rfl rfl ?_
  refine v_leni rfl rfl Try.underlying25 rfl (by first | exact hw0.iarg ha | exact hw0.iarg hb | exact hw0.iarg hc | assumption) ?_
  refine l_gtr rfl rfl rfl rfl ?_
  refine l_move rfl rfl rfl ?_
  apply l_or 3 [0, 1, 2, 3] rfl rfl (.cons rfl (.cons rfl (.cons rfl (.cons rfl (.cons rfl .nil))))) rfl rfl (fun _ => rfl) rfl rfl rfl
  · intro hg1_4
    refine l_move rfl rfl rfl ?_
    refine v_leni rfl rfl Try.underlying25 rfl (by first | exact hw0.iarg ha | exact hw0.iarg hb | exact hw0.iarg hc | assumption) ?_
    refine l_gtr rfl rfl rfl rfl ?_
    refine l_nil ?_
    exact e_stays rfl (.cons rfl (congrArg Value.bool (decide_eq_false hg1_4).symm) (.cons rfl rfl (.cons rfl rfl (.cons rfl rfl (.cons rfl rfl .nil)))))
  refine l_move rfl rfl rfl ?_
  apply l_or 3 [0, 1, 2, 3] rfl rfl (.cons rfl (.cons rfl (.cons rfl (.cons rfl (.cons rfl .nil))))) rfl rfl (fun _ => rfl) rfl rfl rfl
  · intro hg1_9
    refine l_move rfl rfl rfl ?_
    refine v_leni rfl rfl Try.underlying25 rfl (by first | exact hw0.iarg ha | exact hw0.iarg hb | exact hw0.iarg hc | assumption) ?_
    refine l_gtr rfl rfl rfl rfl ?_
    refine l_nil ?_
    exact e_stays rfl (.cons rfl (congrArg Value.bool (decide_eq_false hg1_9).symm) (.cons rfl rfl (.cons rfl rfl (.cons rfl rfl (.cons rfl rfl .nil)))))
  refine l_nil ?_
  refine e_then ?_
  refine c_keep [0, 1, 2, 3, 42] (.cons rfl (.cons rfl (.cons rfl (.cons rfl (.cons rfl .nil))))) ?_
  first | refine c_cond rfl (fun hc0 => ?_) (fun hc0 => ?_) | refine c_condb rfl (fun hc0 => ?_) (fun hc0 => ?_)
  · skip
    refine c_seq ?_
    refine c_region ?_
    refine l_call rfl rfl Try.func19 rfl rfl .nil (wakesL w) ?_
    rintro _ w1 ⟨rfl, hG⟩
    have hw1 := hG _ _ _ _ hw0
    try clear hG hw0
    simp only [List.cons_append, List.nil_append] at hw1
    refine l_assign rfl rfl rfl ?_
    refine l_nil ?_
    refine e_then ?_
    refine c_keep [8] (.cons rfl .nil) ?_
    refine c_ret ?_
    refine e_then_ret ?_
    refine e_done1 Try.results6 rfl ?_
    refine ⟨_, rfl, ?_⟩
    exact ⟨rfl, hw1.grows⟩
  · skip
    have hla : la.length ≤ 40 := by omega
    have hlb : lb.length ≤ 40 := by omega
    have hlc : lc.length ≤ 40 := by omega
    have hA0 := hUa.nv_nonneg
    have hB0 := hUb.nv_nonneg
    have hC0 := hUc.nv_nonneg
    have bA : Ma.blen (nv la) ≤ (2560 : Nat) := by have := nv_blen hUa; omega
    have bB : Ma.blen (nv lb) ≤ (2560 : Nat) := by have := nv_blen hUb; omega
    have bC : Ma.blen (nv lc) ≤ (2560 : Nat) := by have := nv_blen hUc; omega
    have bS := blen_add hA0 hB0 bA bB
    have bX := blen_mul (by omega) hC0 bS bC
    have bAC := blen_mul hA0 hC0 bA bC
    have bCB := blen_mul hC0 hB0 bC bB
    have bY := blen_add (Int.mul_nonneg hA0 hC0) (Int.mul_nonneg hC0 hB0) bAC bCB
    have eXY : (nv la + nv lb) * nv lc = nv la * nv lc + nv lc * nv lb := by rw [Int.add_mul, Int.mul_comm (nv lb)]
    refine c_skip ?_
    refine e_then ?_
    refine c_keep [0, 1, 2, 3] (.cons rfl (.cons rfl (.cons rfl (.cons rfl .nil)))) ?_
    refine c_seq ?_
    refine c_region ?_
    refine l_move rfl rfl rfl ?_
    refine l_move rfl rfl rfl ?_
    refine l_call rfl rfl Try.func29 rfl rfl (.cons rfl (.cons rfl .nil)) (addS hUa hUb (by omega) (by omega) (by omega) (by omega) (by omega) (hw0.iarg ha) (hw0.iarg hb)) ?_
    rintro _ w2 ⟨vab, lab, rfl, hab, hG⟩
    have hw2 := hG _ _ _ _ hw0
    try clear hG hw0
    simp only [List.cons_append, List.nil_append] at hw2
    refine l_move rfl rfl rfl ?_
    refine l_extract rfl rfl rfl rfl ?_
    refine l_extract rfl rfl rfl rfl ?_
    refine l_assign rfl rfl rfl ?_
    refine l_assign rfl rfl rfl ?_
    refine l_nil ?_
    refine e_then ?_
    refine c_keep [0, 1, 2, 3, 9] (.cons rfl (.cons rfl (.cons rfl (.cons rfl (.cons rfl .nil))))) ?_
    refine c_seq ?_
    refine c_region ?_
    have eab : nv lab = nv la + nv lb := hab.val
    have lab1 := cn_len hab (k := 8192) (by omega)
    refine l_move rfl rfl rfl ?_
    refine l_move rfl rfl rfl ?_
    refine l_call rfl rfl Try.func29 rfl rfl (.cons rfl (.cons rfl .nil)) (addS hUb hUa (by omega) (by omega) (by omega) (by omega) (by rw [Int.add_comm]; omega) (hw2.iarg hb) (hw2.iarg ha)) ?_
    rintro _ w3 ⟨vba, lba, rfl, hba, hG⟩
    have hw3 := hG _ _ _ _ hw2
    try clear hG hw2
    simp only [List.cons_append, List.nil_append] at hw3
    refine l_move rfl rfl rfl ?_
    refine l_extract rfl rfl rfl rfl ?_
    refine l_extract rfl rfl rfl rfl ?_
    refine l_assign rfl rfl rfl ?_
    refine l_assign rfl rfl rfl ?_
    refine l_nil ?_
    refine e_then ?_
    refine c_keep [0, 1, 2, 3, 9, 11] (.cons rfl (.cons rfl (.cons rfl (.cons rfl (.cons rfl (.cons rfl .nil)))))) ?_
    refine c_seq ?_
    refine c_region ?_
    refine l_move rfl rfl rfl ?_
    refine l_move rfl rfl rfl ?_
    refine l_call rfl rfl Try.func30 rfl rfl (.cons rfl (.cons rfl .nil)) (mulS (cnU hab) hUc (by omega) (by omega) (by rw [eab]; omega) (by omega) (by rw [eab]; omega) (hw3.io mem1) (hw3.iarg hc)) ?_
    rintro _ w4 ⟨vx, lx, rfl, hx, hG⟩
    have hw4 := hG _ _ _ _ hw3
    try clear hG hw3
    simp only [List.cons_append, List.nil_append] at hw4
    refine l_move rfl rfl rfl ?_
    refine l_extract rfl rfl rfl rfl ?_
    refine l_extract rfl rfl rfl rfl ?_
    refine l_assign rfl rfl rfl ?_
    refine l_assign rfl rfl rfl ?_
    refine l_nil ?_
    refine e_then ?_
    refine c_keep [0, 1, 2, 3, 9, 11, 13, 14] (.cons rfl (.cons rfl (.cons rfl (.cons rfl (.cons rfl (.cons rfl (.cons rfl (.cons rfl .nil)))))))) ?_
    refine c_seq ?_
    refine c_region ?_
    refine l_move rfl rfl rfl ?_
    refine l_move rfl rfl rfl ?_
    refine l_call rfl rfl Try.func30 rfl rfl (.cons rfl (.cons rfl .nil)) (mulS hUa hUc (by omega) (by omega) (by omega) (by omega) (by omega) (hw4.iarg ha) (hw4.iarg hc)) ?_
    rintro _ w5 ⟨vac, lac, rfl, hac, hG⟩
    have hw5 := hG _ _ _ _ hw4
    try clear hG hw4
    simp only [List.cons_append, List.nil_append] at hw5
    refine l_move rfl rfl rfl ?_
    refine l_extract rfl rfl rfl rfl ?_
    refine l_extract rfl rfl rfl rfl ?_
    refine l_assign rfl rfl rfl ?_
    refine l_assign rfl rfl rfl ?_
    refine l_nil ?_
    refine e_then ?_
    refine c_keep [0, 1, 2, 3, 9, 11, 13, 14, 15] (.cons rfl (.cons rfl (.cons rfl (.cons rfl (.cons rfl (.cons rfl (.cons rfl (.cons rfl (.cons rfl .nil))))))))) ?_
    refine c_seq ?_
    refine c_region ?_
    have eac : nv lac = nv la * nv lc := hac.val
    have lac1 := cn_len hac (k := 8192) (by omega)
    refine l_move rfl rfl rfl ?_
    refine l_move rfl rfl rfl ?_
    refine l_call rfl rfl Try.func30 rfl rfl (.cons rfl (.cons rfl .nil)) (mulS hUc hUb (by omega) (by omega) (by omega) (by omega) (by omega) (hw5.iarg hc) (hw5.iarg hb)) ?_
    rintro _ w6 ⟨vcb, lcb, rfl, hcb, hG⟩
    have hw6 := hG _ _ _ _ hw5
    try clear hG hw5
    simp only [List.cons_append, List.nil_append] at hw6
    refine l_move rfl rfl rfl ?_
    refine l_extract rfl rfl rfl rfl ?_
    refine l_extract rfl rfl rfl rfl ?_
    refine l_assign rfl rfl rfl ?_
    refine l_assign rfl rfl rfl ?_
    refine l_nil ?_
    refine e_then ?_
    refine c_keep [0, 3, 9, 11, 13, 14, 15, 17] (.cons rfl (.cons rfl (.cons rfl (.cons rfl (.cons rfl (.cons rfl (.cons rfl (.cons rfl .nil)))))))) ?_
    refine c_seq ?_
    refine c_region ?_
    have ecb : nv lcb = nv lc * nv lb := hcb.val
    have lcb1 := cn_len hcb (k := 8192) (by omega)
    refine l_move rfl rfl rfl ?_
    refine l_move rfl rfl rfl ?_
    refine l_call rfl rfl Try.func29 rfl rfl (.cons rfl (.cons rfl .nil)) (addS (cnU hac) (cnU hcb) (by omega) (by omega) (by rw [eac]; omega) (by rw [ecb]; omega) (by rw [eac, ecb]; omega) (hw6.io mem1) (hw6.io mem0)) ?_
    rintro _ w7 ⟨vy, ly, rfl, hy, hG⟩
    have hw7 := hG _ _ _ _ hw6
    try clear hG hw6
    simp only [List.cons_append, List.nil_append] at hw7
    refine l_move rfl rfl rfl ?_
    refine l_extract rfl rfl rfl rfl ?_
    refine l_extract rfl rfl rfl rfl ?_
    refine l_assign rfl rfl rfl ?_
    refine l_assign rfl rfl rfl ?_
    refine l_nil ?_
    refine e_then ?_
    refine c_keep [0, 3, 9, 11, 13, 14, 19, 20] (.cons rfl (.cons rfl (.cons rfl (.cons rfl (.cons rfl (.cons rfl (.cons rfl (.cons rfl .nil)))))))) ?_
    refine c_seq ?_
    refine c_seq ?_
    refine c_region ?_
    rw [eab] at hx
    rw [eac, ecb] at hy
    rw [Int.add_comm] at hba
    refine l_move rfl rfl rfl ?_
    refine l_callp rfl rfl Try.func12 rfl rfl (.cons rfl .nil) (numL _ _) ?_
    refine l_neq rfl rfl rfl rfl ?_
    refine l_turn (s := 82) (v' := .bool false) rfl (by simp) ?_
    refine l_move rfl rfl rfl ?_
    refine l_move rfl rfl rfl ?_
    refine l_callp rfl rfl Try.func12 rfl rfl (.cons rfl .nil) (numL _ _) ?_
    refine l_neq rfl rfl rfl rfl ?_
    refine l_turn (s := 86) (v' := .bool false) rfl (by simp) ?_
    refine l_pick_f rfl rfl rfl rfl ?_
    refine l_move rfl rfl rfl ?_
    refine l_move rfl rfl rfl ?_
    refine l_move rfl rfl rfl ?_
    refine l_call rfl rfl Try.func13 rfl rfl (.cons rfl (.cons rfl .nil)) (wordsK _ _ lab lba (cnU hab) (cnU hba) (by have := cn_len hab (k := 8192) (by omega); omega) (by have := cn_len hba (k := 8192) (by omega); omega) w7 (hw7.io mem5) (hw7.io mem4)) ?_
    rintro _ w8 ⟨rfl, hG⟩
    have hw8 := hG _ _ _ _ hw7
    try clear hG hw7
    simp only [List.cons_append, List.nil_append] at hw8
    refine l_turn (s := 91) (v' := .bool true) rfl (by rw [decide_eq_true (hab.eq (by omega) hba)]) ?_
    first | refine l_notd rfl rfl rfl ?_ | refine l_not rfl rfl rfl ?_
    refine l_turn (s := 92) (v' := .bool false) rfl (by rfl) ?_
    refine l_pick_f rfl rfl rfl rfl ?_
    refine l_move rfl rfl rfl ?_
    refine l_move rfl rfl rfl ?_
    refine l_move rfl rfl rfl ?_
    refine l_call rfl rfl Try.func13 rfl rfl (.cons rfl (.cons rfl .nil)) (wordsK _ _ lx ly (cnU hx) (cnU hy) (by have := cn_len hx (k := 8192) (by omega); omega) (by have := cn_len hy (k := 8192) (by omega); omega) w8 (hw8.io mem3) (hw8.io mem0)) ?_
    rintro _ w9 ⟨rfl, hG⟩
    have hw9 := hG _ _ _ _ hw8
    try clear hG hw8
    simp only [List.cons_append, List.nil_append] at hw9
    refine l_turn (s := 97) (v' := .bool true) rfl (by rw [decide_eq_true (hx.eq (by omega) (by rw [eXY]; exact hy))]) ?_
    first | refine l_notd rfl rfl rfl ?_ | refine l_not rfl rfl rfl ?_
    refine l_turn (s := 98) (v' := .bool false) rfl (by rfl) ?_
    refine l_pick_f rfl rfl rfl rfl ?_
    refine l_nil ?_
    refine e_then ?_
    refine c_keep [0, 3, 99] (.cons rfl (.cons rfl (.cons rfl .nil))) ?_
    refine c_cond_f rfl rfl ?_
    refine c_skip ?_
    refine e_then ?_
    refine c_keep [0, 3] (.cons rfl (.cons rfl .nil)) ?_
    refine c_seq ?_
    refine c_region ?_
    refine l_move rfl rfl rfl ?_
    refine l_bits rfl rfl rfl rfl rfl (and_1023 hn) ?_
    obtain ⟨k, hk⟩ : ∃ k : Nat, n % 1024 = (k : Int) := ⟨(n % 1024).toNat, by omega⟩
    have hk1 : k ≤ 1023 := by omega
    rw [hk]
    have b2 := blen_two k
    have bm := blen_mul hA0 (Int.le_of_lt (Ma.pow_pos (show (0 : Int) < 2 by omega) k)) bA b2
    have hbs : Ma.blen (nv la * 2 ^ k) ≤ 8192 := by omega
    refine l_assign rfl rfl rfl ?_
    refine l_nil ?_
    refine e_then ?_
    refine c_keep [0, 3] (.cons rfl (.cons rfl .nil)) ?_
    refine c_seq ?_
    refine c_region ?_
    refine l_move rfl rfl rfl ?_
    refine l_call rfl rfl Try.func10 rfl rfl (.cons rfl (.cons rfl .nil)) (powC (k := k) hk1 (w := w9)) ?_
    rintro _ w10 ⟨vp, lp, rfl, hp, hG⟩
    have hw10 := hG _ _ _ _ hw9
    try clear hG hw9
    simp only [List.cons_append, List.nil_append] at hw10
    refine l_move rfl rfl rfl ?_
    refine l_extract rfl rfl rfl rfl ?_
    refine l_extract rfl rfl rfl rfl ?_
    refine l_assign rfl rfl rfl ?_
    refine l_assign rfl rfl rfl ?_
    refine l_nil ?_
    refine e_then ?_
    refine c_keep [0, 3, 21, 22] (.cons rfl (.cons rfl (.cons rfl (.cons rfl .nil)))) ?_
    refine c_seq ?_
    refine c_region ?_
    have ep : nv lp = 2 ^ k := hp.val
    have lp1 := cn_len hp (k := 8192) (by omega)
    refine l_move rfl rfl rfl ?_
    refine l_move rfl rfl rfl ?_
    refine l_call rfl rfl Try.func31 rfl rfl (.cons rfl (.cons rfl .nil)) (shlC hUa hla (k := k) hk1 (hw10.iarg ha)) ?_
    rintro _ w11 ⟨vl, ll, rfl, hl, hG⟩
    have hw11 := hG _ _ _ _ hw10
    try clear hG hw10
    simp only [List.cons_append, List.nil_append] at hw11
    refine l_move rfl rfl rfl ?_
    refine l_extract rfl rfl rfl rfl ?_
    refine l_extract rfl rfl rfl rfl ?_
    refine l_assign rfl rfl rfl ?_
    refine l_assign rfl rfl rfl ?_
    refine l_nil ?_
    refine e_then ?_
    refine c_keep [0, 3, 21, 22, 23, 24] (.cons rfl (.cons rfl (.cons rfl (.cons rfl (.cons rfl (.cons rfl .nil)))))) ?_
    refine c_seq ?_
    refine c_region ?_
    refine l_move rfl rfl rfl ?_
    refine l_move rfl rfl rfl ?_
    refine l_call rfl rfl Try.func30 rfl rfl (.cons rfl (.cons rfl .nil)) (mulS hUa (cnU hp) (by omega) (by omega) (by omega) (by rw [ep]; omega) (by rw [ep]; omega) (hw11.iarg ha) (hw11.io mem1)) ?_
    rintro _ w12 ⟨vm, lm, rfl, hm, hG⟩
    have hw12 := hG _ _ _ _ hw11
    try clear hG hw11
    simp only [List.cons_append, List.nil_append] at hw12
    refine l_move rfl rfl rfl ?_
    refine l_extract rfl rfl rfl rfl ?_
    refine l_extract rfl rfl rfl rfl ?_
    refine l_assign rfl rfl rfl ?_
    refine l_assign rfl rfl rfl ?_
    refine l_nil ?_
    refine e_then ?_
    refine c_keep [0, 3, 22, 23, 24, 25, 26] (.cons rfl (.cons rfl (.cons rfl (.cons rfl (.cons rfl (.cons rfl (.cons rfl .nil))))))) ?_
    refine c_seq ?_
    refine c_region ?_
    rw [ep] at hm
    refine l_move rfl rfl rfl ?_
    refine l_move rfl rfl rfl ?_
    refine l_call rfl rfl Try.func32 rfl rfl (.cons rfl (.cons rfl .nil)) (shrC hA0 (k := k) hl hbs (hw12.io mem1)) ?_
    rintro _ w13 ⟨vr, lr, rfl, hr, hG⟩
    have hw13 := hG _ _ _ _ hw12
    try clear hG hw12
    simp only [List.cons_append, List.nil_append] at hw13
    refine l_move rfl rfl rfl ?_
    refine l_extract rfl rfl rfl rfl ?_
    refine l_extract rfl rfl rfl rfl ?_
    refine l_extract rfl rfl rfl rfl ?_
    refine l_assign rfl rfl rfl ?_
    refine l_assign rfl rfl rfl ?_
    refine l_assign rfl rfl rfl ?_
    refine l_nil ?_
    refine e_then ?_
    refine c_keep [0, 22, 23, 24, 25, 26, 27, 28, 29] (.cons rfl (.cons rfl (.cons rfl (.cons rfl (.cons rfl (.cons rfl (.cons rfl (.cons rfl (.cons rfl .nil))))))))) ?_
    refine c_seq ?_
    refine c_region ?_
    refine l_move rfl rfl rfl ?_
    refine l_callp rfl rfl Try.func12 rfl rfl (.cons rfl .nil) (numL _ _) ?_
    refine l_eql rfl rfl rfl rfl ?_
    refine l_turn (s := 128) (v' := .bool true) rfl (by rfl) ?_
    refine l_move rfl rfl rfl ?_
    refine l_move rfl rfl rfl ?_
    refine l_callp rfl rfl Try.func12 rfl rfl (.cons rfl .nil) (numL _ _) ?_
    refine l_eql rfl rfl rfl rfl ?_
    refine l_turn (s := 132) (v' := .bool true) rfl (by rfl) ?_
    refine l_pick_t rfl rfl rfl rfl ?_
    refine l_move rfl rfl rfl ?_
    refine l_move rfl rfl rfl ?_
    refine l_callp rfl rfl Try.func12 rfl rfl (.cons rfl .nil) (numL _ _) ?_
    refine l_eql rfl rfl rfl rfl ?_
    refine l_turn (s := 137) (v' := .bool true) rfl (by rfl) ?_
    refine l_pick_t rfl rfl rfl rfl ?_
    refine l_move rfl rfl rfl ?_
    refine l_move rfl rfl rfl ?_
    refine l_callp rfl rfl Try.func12 rfl rfl (.cons rfl .nil) (numL _ _) ?_
    refine l_eql rfl rfl rfl rfl ?_
    refine l_turn (s := 142) (v' := .bool true) rfl (by rfl) ?_
    refine l_pick_t rfl rfl rfl rfl ?_
    refine l_move rfl rfl rfl ?_
    refine l_move rfl rfl rfl ?_
    refine l_move rfl rfl rfl ?_
    refine l_call rfl rfl Try.func13 rfl rfl (.cons rfl (.cons rfl .nil)) (wordsK _ _ ll lm (cnU hl) (cnU hm) (by have := cn_len hl (k := 8192) (by omega); omega) (by have := cn_len hm (k := 8192) (by omega); omega) w13 (hw13.io mem2) (hw13.io mem1)) ?_
    rintro _ w14 ⟨rfl, hG⟩
    have hw14 := hG _ _ _ _ hw13
    try clear hG hw13
    simp only [List.cons_append, List.nil_append] at hw14
    refine l_turn (s := 147) (v' := .bool true) rfl (by rw [decide_eq_true (hl.eq (by omega) hm)]) ?_
    refine l_pick_t rfl rfl rfl rfl ?_
    refine l_move rfl rfl rfl ?_
    refine l_move rfl rfl rfl ?_
    refine l_move rfl rfl rfl ?_
    refine l_call rfl rfl Try.func33 rfl rfl (.cons rfl (.cons rfl .nil)) (cmpN _ _ lr la (cnU hr) hUa (by have := cn_len hr (k := 8192) (by omega); omega) (by omega) w14 (hw14.io mem0) (hw14.iarg ha)) ?_
    rintro _ w15 ⟨rfl, hG⟩
    have hw15 := hG _ _ _ _ hw14
    try clear hG hw14
    simp only [List.cons_append, List.nil_append] at hw15
    refine l_eql rfl rfl rfl rfl ?_
    refine l_turn (s := 153) (v' := .bool true) rfl (by rw [decide_eq_true (cmpI_eq hr.val)]) ?_
    refine l_pick_t rfl rfl rfl rfl ?_
    refine l_move rfl rfl rfl ?_
    refine l_move rfl rfl rfl ?_
    first | refine l_notd rfl rfl rfl ?_ | refine l_not rfl rfl rfl ?_
    refine l_turn (s := 157) (v' := .bool true) rfl (by rfl) ?_
    refine l_pick_t rfl rfl rfl rfl ?_
    refine l_move rfl rfl rfl ?_
    refine l_call rfl rfl Try.func19 rfl rfl .nil (wakesL w15) ?_
    rintro _ w16 ⟨rfl, hG⟩
    have hw16 := hG _ _ _ _ hw15
    try clear hG hw15
    simp only [List.cons_append, List.nil_append] at hw16
    refine l_turn (s := 160) (v' := .bool true) rfl (by rfl) ?_
    refine l_pick_t rfl rfl rfl rfl ?_
    refine l_assign rfl rfl rfl ?_
    refine l_nil ?_
    refine e_then ?_
    refine c_keep [8] (.cons rfl .nil) ?_
    refine c_ret ?_
    refine e_done1 Try.results6 rfl ?_
    refine ⟨_, rfl, ?_⟩
    have hw17 := St.del (.tail (.tail (.tail (.tail (.tail (.tail (.tail (.tail (.tail .head))))))))) hw16
    try clear hw16
    have hw18 := St.del (.tail (.tail (.tail (.tail (.tail (.tail (.tail (.tail .head)))))))) hw17
    try clear hw17
    have hw19 := St.del (.tail (.tail (.tail (.tail (.tail (.tail (.tail .head))))))) hw18
    try clear hw18
    have hw20 := St.del (.tail (.tail (.tail (.tail (.tail (.tail .head)))))) hw19
    try clear hw19
    have hw21 := St.del (.tail (.tail (.tail (.tail (.tail .head))))) hw20
    try clear hw20
    have hw22 := St.del (.tail (.tail (.tail (.tail .head)))) hw21
    try clear hw21
    have hw23 := St.del (.tail (.tail (.tail .head))) hw22
    try clear hw22
    have hw24 := St.del (.tail (.tail .head)) hw23
    try clear hw23
    have hw25 := St.del (.tail .head) hw24
    try clear hw24
    have hw26 := St.del .head hw25
    try clear hw25
    exact ⟨rfl, hw26.grows⟩
end Go.Proofs.Ytnddfmjmeghkjaa.W
