/- walk of the law BitsOrder -/
import Derived.Test.YtidbonodfmicgaaGh
set_option linter.unusedVariables false
set_option linter.unusedSimpArgs false
set_option maxRecDepth 10000
namespace Go.Proofs.Ytidbonodfmicgaa.W
open Go.Vc Go.RowKit

theorem and_i1 {n : Int} (h : -9223372036854775808 ≤ n ∧ n ≤ 9223372036854775807) : bitw .and .i64 n 1 = n % 2 := by
  have e : (BitVec.ofInt IntKind.i64.bits n &&& BitVec.ofInt IntKind.i64.bits 1).toNat = (n % 18446744073709551616).toNat % 2 := by
    show (BitVec.ofInt 64 n &&& BitVec.ofInt 64 1).toNat = _
    rw [BitVec.toNat_and, BitVec.toNat_ofInt, BitVec.toNat_ofInt]
    exact Nat.and_two_pow_sub_one_eq_mod (n % 18446744073709551616).toNat 1
  show IntKind.i64.wrap _ = _
  rw [e, w_i64 (by omega)]
  omega
theorem kd_fit (n : Int) : ∃ d, kd (9 + n % 2) = some d := by
  rcases (show n % 2 = 0 ∨ n % 2 = 1 by omega) with h | h <;> rw [h]
  · exact ⟨.f32, rfl⟩
  · exact ⟨.f64, rfl⟩
theorem fit_bd {k a : Int} {d : Kd} (hk : kd k = some d) (ha : 0 ≤ a ∧ a ≤ 18446744073709551615) : 0 ≤ (if k = 9 then a % 4294967296 else a) ∧ (if k = 9 then a % 4294967296 else a) < 2 * d.S := by
  rcases kd_some hk with ⟨rfl, rfl⟩ | ⟨rfl, rfl⟩
  · show 0 ≤ a % 4294967296 ∧ a % 4294967296 < 2 * 2147483648; omega
  · show 0 ≤ a ∧ a < 2 * 9223372036854775808; omega
theorem cmF_at {k a b : Int} {d : Kd} (hk : kd k = some d) (ha : 0 ≤ a ∧ a < 2 * d.S) (hb : 0 ≤ b ∧ b < 2 * d.S) : cmF k a b = if d.I < a % d.S ∨ d.I < b % d.S then (0, 32) else (cmpI (ordS d a) (ordS d b), 0) := by
  unfold cmF
  rw [if_neg (fun h => h (chk_some hk ha.2)), ofk_ok hk (chk_some hk hb.2)]
theorem cmpI_sym (x y : Int) : cmpI x y = 0 - cmpI y x ∧ -1 ≤ cmpI x y ∧ cmpI x y ≤ 1 ∧ cmpI (-x) (-y) = cmpI y x := by
  unfold cmpI
  refine ⟨?_, ?_, ?_, ?_⟩ <;> (repeat' split) <;> omega
theorem turn_ord (d : Kd) {a : Int} (ha : 0 ≤ a ∧ a < 2 * d.S) : turnS d a % d.S = a % d.S ∧ ordS d (turnS d a) = -(ordS d a) := by
  have hbd := d.bd
  have ma := mod_S d ha
  have mt := mod_S d (turn_bd d ha)
  by_cases h : d.S ≤ a
  · have e : turnS d a = a - d.S := if_pos h
    rw [e] at mt ⊢
    unfold ordS
    (repeat' split) <;> omega
  · have e : turnS d a = a + d.S := if_neg h
    rw [e] at mt ⊢
    unfold ordS
    (repeat' split) <;> omega
theorem cm_sym {k a b : Int} {d : Kd} (hk : kd k = some d) (ha : 0 ≤ a ∧ a < 2 * d.S) (hb : 0 ≤ b ∧ b < 2 * d.S) : (cmF k a b).2 = (cmF k b a).2 ∧ (cmF k a b).1 = 0 - (cmF k b a).1 ∧ -1 ≤ (cmF k b a).1 ∧ (cmF k b a).1 ≤ 1 ∧ cmF k (turnS d a) (turnS d b) = cmF k b a := by
  have hbd := d.bd
  have e1 := cmF_at hk ha hb
  have e2 := cmF_at hk hb ha
  have e3 := cmF_at hk (turn_bd d ha) (turn_bd d hb)
  have ma := mod_S d ha
  have mb := mod_S d hb
  have ta := turn_ord d ha
  have tb := turn_ord d hb
  rw [ta.1, ta.2, tb.1, tb.2, (cmpI_sym _ _).2.2.2] at e3
  by_cases hc : d.I < a % d.S ∨ d.I < b % d.S
  · rw [if_pos hc] at e1 e3
    rw [if_pos hc.symm] at e2
    rw [e1, e2, e3]
    exact ⟨rfl, rfl, by decide, by decide, rfl⟩
  · rw [if_neg hc] at e1 e3
    rw [if_neg (fun h => hc h.symm)] at e2
    rw [e1, e2, e3]
    have := cmpI_sym (ordS d a) (ordS d b)
    have h2 := cmpI_sym (ordS d b) (ordS d a)
    exact ⟨rfl, this.1, h2.2.1, h2.2.2.1, rfl⟩
theorem next_facts {k a : Int} {d : Kd} (hk : kd k = some d) (ha : 0 ≤ a ∧ a < 2 * d.S) (hn : (nx d a).2 = 0) :
    cmF k a (nx d a).1 = (-1, 0) ∧ (prF k (nx d a).1).2 = 0 ∧ (0 ≤ (prF k (nx d a).1).1 ∧ (prF k (nx d a).1).1 < 2 * d.S) ∧ cmF k (prF k (nx d a).1).1 a = (0, 0) := by
  have hbd := d.bd
  have ma := mod_S d ha
  have key : ∀ b c x y : Int, nx d a = (b, 0) → (0 ≤ b ∧ b < 2 * d.S) → turnS d b = c → nx d c = (x, 0) → turnS d x = y → (0 ≤ y ∧ y < 2 * d.S) → a % d.S ≤ d.I → b % d.S ≤ d.I → y % d.S ≤ d.I → ordS d a < ordS d b → ordS d y = ordS d a →
      cmF k a (nx d a).1 = (-1, 0) ∧ (prF k (nx d a).1).2 = 0 ∧ (0 ≤ (prF k (nx d a).1).1 ∧ (prF k (nx d a).1).1 < 2 * d.S) ∧ cmF k (prF k (nx d a).1).1 a = (0, 0) := by
    intro b c x y e1 hb e2 e3 e4 hy h1 h2 h3 h4 h5
    have ep : prF k b = (y, 0) := by
      unfold prF
      rw [ofk_ok hk (chk_some hk hb.2), e2, e3]
      simp only
      rw [if_pos trivial, e4] 
    rw [e1]
    simp only
    rw [ep]
    refine ⟨?_, rfl, hy, ?_⟩
    · rw [cmF_at hk ha hb, if_neg (by omega), cmpI_lt h4]
    · rw [cmF_at hk hy ha, if_neg (by omega), cmpI_eq h5]
  by_cases c1 : d.I ≤ a % d.S
  · unfold nx at hn; rw [if_pos c1] at hn; cases hn
  · by_cases c2 : a % d.S = 0
    · have m1 := mod_S d (b := 1) (by omega)
      have m2 := mod_S d (b := 1 + d.S) (by omega)
      have m3 := mod_S d (b := 0) (by omega)
      refine key 1 (1 + d.S) d.S 0 ?_ (by omega) ?_ ?_ ?_ (by omega) (by omega) (by omega) (by omega) ?_ ?_
      · unfold nx; rw [if_neg c1, if_pos c2]
      · unfold turnS; rw [if_neg (by omega)]
      · unfold nx; rw [if_neg (by omega), if_neg (by omega), if_pos (by omega), show 1 + d.S - 1 = d.S by omega]
      · unfold turnS; rw [if_pos (by omega)]; omega
      · unfold ordS; (repeat' split) <;> omega
      · unfold ordS; (repeat' split) <;> omega
    · by_cases c3 : d.S ≤ a
      · have m1 := mod_S d (b := a - 1) (by omega)
        have m2 := mod_S d (b := a - 1 - d.S) (by omega)
        have m3 := mod_S d (b := a - d.S) (by omega)
        refine key (a - 1) (a - 1 - d.S) (a - d.S) a ?_ (by omega) ?_ ?_ ?_ (by omega) (by omega) (by omega) (by omega) ?_ rfl
        · unfold nx; rw [if_neg c1, if_neg c2, if_pos c3]
        · unfold turnS; rw [if_pos (by omega)]
        · by_cases c4 : a - 1 - d.S = 0
          · unfold nx; rw [if_neg (by omega), if_pos (by omega), show a - d.S = 1 by omega]
          · unfold nx; rw [if_neg (by omega), if_neg (by omega), if_neg (by omega), if_neg (by omega), show a - 1 - d.S + 1 = a - d.S by omega]
        · unfold turnS; rw [if_neg (by omega)]; omega
        · unfold ordS; (repeat' split) <;> omega
      · by_cases c4 : a + 1 = d.I
        · unfold nx at hn; rw [if_neg c1, if_neg c2, if_neg c3, if_pos c4] at hn; cases hn
        · have m1 := mod_S d (b := a + 1) (by omega)
          have m2 := mod_S d (b := a + 1 + d.S) (by omega)
          have m3 := mod_S d (b := a + d.S) (by omega)
          refine key (a + 1) (a + 1 + d.S) (a + d.S) a ?_ (by omega) ?_ ?_ ?_ (by omega) (by omega) (by omega) (by omega) ?_ rfl
          · unfold nx; rw [if_neg c1, if_neg c2, if_neg c3, if_neg c4]
          · unfold turnS; rw [if_neg (by omega)]
          · unfold nx; rw [if_neg (by omega), if_neg (by omega), if_pos (by omega), show a + 1 + d.S - 1 = a + d.S by omega]
          · unfold turnS; rw [if_pos (by omega)]; omega
          · unfold ordS; (repeat' split) <;> omega

theorem bitsOrderL (n a b : Int) (hn : -9223372036854775808 ≤ n ∧ n ≤ 9223372036854775807) (ha : 0 ≤ a ∧ a ≤ 18446744073709551615) (hb : 0 ≤ b ∧ b ≤ 18446744073709551615) (w : World) :
    CallsV P 7 [.int .i64 n, .int .u64 a, .int .u64 b] w fun r w' => r = .bool true ∧ Grow w w' [] := by
  refine enterW Try.func7 rfl Try.ntmps7 rfl ?_
  have hw0 := St.start w
  obtain ⟨d, hk⟩ := kd_fit n
  have hbd := d.bd
  have hfa := fit_bd hk ha
  have hfb := fit_bd hk hb
  refine c_seq ?_
  refine c_region ?_
  refine l_assign rfl rfl rfl ?_
  refine l_nil ?_
  refine e_then ?_
  refine c_keep [0, 1, 2] (.cons rfl (.cons rfl (.cons rfl .nil))) ?_
  refine c_seq ?_
  refine c_region ?_
  refine l_move rfl rfl rfl ?_
  refine l_bits rfl rfl rfl rfl rfl (and_i1 hn) ?_
  refine l_add rfl rfl rfl rfl (w_i64 (by omega)) ?_
  refine l_assign rfl rfl rfl ?_
  refine l_nil ?_
  refine e_then ?_
  refine c_keep [1, 2, 7] (.cons rfl (.cons rfl (.cons rfl .nil))) ?_
  refine c_seq ?_
  refine c_region ?_
  refine l_move rfl rfl rfl ?_
  refine l_move rfl rfl rfl ?_
  refine l_callp rfl rfl Try.func17 rfl rfl (.cons rfl (.cons rfl .nil)) (fit3 (9 + n % 2) a ha w) ?_
  refine l_move rfl rfl rfl ?_
  refine l_move rfl rfl rfl ?_
  refine l_callp rfl rfl Try.func17 rfl rfl (.cons rfl (.cons rfl .nil)) (fit3 (9 + n % 2) b hb w) ?_
  refine l_assign rfl rfl rfl ?_
  refine l_assign rfl rfl rfl ?_
  refine l_nil ?_
  refine e_then ?_
  refine c_keep [1, 2, 7] (.cons rfl (.cons rfl (.cons rfl .nil))) ?_
  refine c_seq ?_
  refine c_region ?_
  obtain ⟨a2, hae⟩ : ∃ x, x = (if 9 + n % 2 = 9 then a % 4294967296 else a) := ⟨_, rfl⟩
  obtain ⟨b2, hbe⟩ : ∃ x, x = (if 9 + n % 2 = 9 then b % 4294967296 else b) := ⟨_, rfl⟩
  refine l_turn (s := 1) (v' := .int .u64 a2) rfl (by rw [hae]) ?_
  refine l_turn (s := 2) (v' := .int .u64 b2) rfl (by rw [hbe]) ?_
  rw [← hae] at hfa
  rw [← hbe] at hfb
  have ha2 := hfa
  have hb2 := hfb
  have hcs := cm_sym hk ha2 hb2
  have hta := turn_bd d ha2
  have htb := turn_bd d hb2
  have hnk : nxF (9 + n % 2) a2 = nx d a2 := ofk_ok hk (chk_some hk ha2.2)
  have hnb := nx_bd d ha2
  rw [← hnk] at hnb
  refine l_move rfl rfl rfl ?_
  refine l_move rfl rfl rfl ?_
  refine l_move rfl rfl rfl ?_
  refine l_call rfl rfl Try.func27 rfl rfl (.cons rfl (.cons rfl (.cons rfl .nil))) (cmpB (9 + n % 2) a2 b2 (by omega) (by omega) w) ?_
  rintro _ w1 ⟨rfl, hG⟩
  have hw1 := hG _ _ _ _ hw0
  try clear hG hw0
  simp only [List.cons_append, List.nil_append] at hw1
  refine l_move rfl rfl rfl ?_
  refine l_extract rfl rfl rfl rfl ?_
  refine l_extract rfl rfl rfl rfl ?_
  refine l_assign rfl rfl rfl ?_
  refine l_assign rfl rfl rfl ?_
  refine l_nil ?_
  refine e_then ?_
  refine c_keep [1, 2, 7, 8, 9] (.cons rfl (.cons rfl (.cons rfl (.cons rfl (.cons rfl .nil))))) ?_
  refine c_seq ?_
  refine c_region ?_
  refine l_move rfl rfl rfl ?_
  refine l_move rfl rfl rfl ?_
  refine l_move rfl rfl rfl ?_
  refine l_call rfl rfl Try.func27 rfl rfl (.cons rfl (.cons rfl (.cons rfl .nil))) (cmpB (9 + n % 2) b2 a2 (by omega) (by omega) w1) ?_
  rintro _ w2 ⟨rfl, hG⟩
  have hw2 := hG _ _ _ _ hw1
  try clear hG hw1
  simp only [List.cons_append, List.nil_append] at hw2
  refine l_move rfl rfl rfl ?_
  refine l_extract rfl rfl rfl rfl ?_
  refine l_extract rfl rfl rfl rfl ?_
  refine l_assign rfl rfl rfl ?_
  refine l_assign rfl rfl rfl ?_
  refine l_nil ?_
  refine e_then ?_
  refine c_keep [1, 2, 7, 8, 9, 10, 11] (.cons rfl (.cons rfl (.cons rfl (.cons rfl (.cons rfl (.cons rfl (.cons rfl .nil))))))) ?_
  refine c_seq ?_
  refine c_seq ?_
  refine c_region ?_
  refine l_move rfl rfl rfl ?_
  refine l_move rfl rfl rfl ?_
  refine l_neq rfl rfl rfl rfl ?_
  refine l_turn (s := 48) (v' := .bool false) rfl (by rw [hcs.1]; simp) ?_
  refine l_move rfl rfl rfl ?_
  refine l_move rfl rfl rfl ?_
  refine l_move rfl rfl rfl ?_
  refine l_neg rfl rfl rfl (w_i64 (by omega)) ?_
  refine l_neq rfl rfl rfl rfl ?_
  refine l_turn (s := 53) (v' := .bool false) rfl (by rw [hcs.2.1]; simp) ?_
  refine l_pick_f rfl rfl rfl rfl ?_
  refine l_nil ?_
  refine e_then ?_
  refine c_keep [1, 2, 7, 9, 10, 54] (.cons rfl (.cons rfl (.cons rfl (.cons rfl (.cons rfl (.cons rfl .nil)))))) ?_
  refine c_cond_f rfl rfl ?_
  refine c_skip ?_
  refine e_then ?_
  refine c_keep [1, 2, 7, 9, 10] (.cons rfl (.cons rfl (.cons rfl (.cons rfl (.cons rfl .nil))))) ?_
  refine c_seq ?_
  refine c_region ?_
  refine l_move rfl rfl rfl ?_
  refine l_callp rfl rfl Try.func28 rfl rfl (.cons rfl (.cons rfl .nil)) (inf3 (9 + n % 2) d hk true w2) ?_
  refine l_move rfl rfl rfl ?_
  refine l_callp rfl rfl Try.func28 rfl rfl (.cons rfl (.cons rfl .nil)) (inf3 (9 + n % 2) d hk false w2) ?_
  refine l_sub rfl rfl rfl rfl (w_u64 (by rw [if_pos rfl, if_neg (by decide)]; omega)) ?_
  refine l_turn (s := 59) (v' := .int .u64 d.S) rfl (by simp; omega) ?_
  refine l_assign rfl rfl rfl ?_
  refine l_nil ?_
  refine e_then ?_
  refine c_keep [1, 2, 7, 9, 10, 12] (.cons rfl (.cons rfl (.cons rfl (.cons rfl (.cons rfl (.cons rfl .nil)))))) ?_
  refine c_seq ?_
  refine c_region ?_
  refine l_move rfl rfl rfl ?_
  refine l_move rfl rfl rfl ?_
  refine l_move rfl rfl rfl ?_
  refine l_bits rfl rfl rfl rfl rfl (xor_S d ha2) ?_
  refine l_move rfl rfl rfl ?_
  refine l_move rfl rfl rfl ?_
  refine l_bits rfl rfl rfl rfl rfl (xor_S d hb2) ?_
  refine l_call rfl rfl Try.func27 rfl rfl (.cons rfl (.cons rfl (.cons rfl .nil))) (cmpB (9 + n % 2) (turnS d a2) (turnS d b2) (by omega) (by omega) w2) ?_
  rintro _ w3 ⟨rfl, hG⟩
  have hw3 := hG _ _ _ _ hw2
  try clear hG hw2
  simp only [List.cons_append, List.nil_append] at hw3
  refine l_move rfl rfl rfl ?_
  refine l_extract rfl rfl rfl rfl ?_
  refine l_extract rfl rfl rfl rfl ?_
  refine l_assign rfl rfl rfl ?_
  refine l_assign rfl rfl rfl ?_
  refine l_nil ?_
  refine e_then ?_
  refine c_keep [1, 7, 9, 10, 13, 14] (.cons rfl (.cons rfl (.cons rfl (.cons rfl (.cons rfl (.cons rfl .nil)))))) ?_
  refine c_seq ?_
  refine c_seq ?_
  refine c_region ?_
  refine l_move rfl rfl rfl ?_
  refine l_move rfl rfl rfl ?_
  refine l_neq rfl rfl rfl rfl ?_
  refine l_turn (s := 73) (v' := .bool false) rfl (by rw [hcs.2.2.2.2, hcs.1]; simp) ?_
  refine l_move rfl rfl rfl ?_
  refine l_move rfl rfl rfl ?_
  refine l_move rfl rfl rfl ?_
  refine l_neq rfl rfl rfl rfl ?_
  refine l_turn (s := 77) (v' := .bool false) rfl (by rw [hcs.2.2.2.2]; simp) ?_
  refine l_pick_f rfl rfl rfl rfl ?_
  refine l_nil ?_
  refine e_then ?_
  refine c_keep [1, 7, 78] (.cons rfl (.cons rfl (.cons rfl .nil))) ?_
  refine c_cond_f rfl rfl ?_
  refine c_skip ?_
  refine e_then ?_
  refine c_keep [1, 7] (.cons rfl (.cons rfl .nil)) ?_
  refine c_seq ?_
  refine c_region ?_
  refine l_move rfl rfl rfl ?_
  refine l_move rfl rfl rfl ?_
  refine l_call rfl rfl Try.func18 rfl rfl (.cons rfl (.cons rfl .nil)) (nextB (9 + n % 2) a2 (by omega) w3) ?_
  rintro _ w4 ⟨rfl, hG⟩
  have hw4 := hG _ _ _ _ hw3
  try clear hG hw3
  simp only [List.cons_append, List.nil_append] at hw4
  refine l_move rfl rfl rfl ?_
  refine l_extract rfl rfl rfl rfl ?_
  refine l_extract rfl rfl rfl rfl ?_
  refine l_assign rfl rfl rfl ?_
  refine l_assign rfl rfl rfl ?_
  refine l_nil ?_
  refine e_then ?_
  refine c_keep [1, 7, 15, 16] (.cons rfl (.cons rfl (.cons rfl (.cons rfl .nil)))) ?_
  refine c_seq ?_
  refine c_seq ?_
  refine c_region ?_
  refine l_move rfl rfl rfl ?_
  refine l_callp rfl rfl Try.func13 rfl rfl (.cons rfl .nil) (num3 _ _) ?_
  refine l_neq rfl rfl rfl rfl ?_
  refine l_nil ?_
  refine e_then ?_
  refine c_keep [1, 7, 15, 87] (.cons rfl (.cons rfl (.cons rfl (.cons rfl .nil)))) ?_
  first | refine c_cond rfl (fun hc2 => ?_) (fun hc2 => ?_) | refine c_condb rfl (fun hc2 => ?_) (fun hc2 => ?_)
  · skip
    refine c_seq ?_
    refine c_region ?_
    refine l_call rfl rfl Try.func14 rfl rfl .nil (wakes3 w4) ?_
    rintro _ w5 ⟨rfl, hG⟩
    have hw5 := hG _ _ _ _ hw4
    try clear hG hw4
    simp only [List.cons_append, List.nil_append] at hw5
    refine l_assign rfl rfl rfl ?_
    refine l_nil ?_
    refine e_then ?_
    refine c_keep [6] (.cons rfl .nil) ?_
    refine c_ret ?_
    refine e_then_ret ?_
    refine e_done1 Try.results7 rfl ?_
    refine ⟨_, rfl, ?_⟩
    exact ⟨rfl, hw5.grows⟩
  · skip
    refine c_skip ?_
    refine e_then ?_
    refine c_keep [1, 7, 15] (.cons rfl (.cons rfl (.cons rfl .nil))) ?_
    refine c_seq ?_
    refine c_region ?_
    have hnf := next_facts hk ha2 (by rw [← hnk]; omega)
    rw [← hnk] at hnf
    refine l_move rfl rfl rfl ?_
    refine l_move rfl rfl rfl ?_
    refine l_move rfl rfl rfl ?_
    refine l_call rfl rfl Try.func27 rfl rfl (.cons rfl (.cons rfl (.cons rfl .nil))) (cmpB (9 + n % 2) a2 (nxF (9 + n % 2) a2).1 (by omega) (by omega) w4) ?_
    rintro _ w6 ⟨rfl, hG⟩
    have hw6 := hG _ _ _ _ hw4
    try clear hG hw4
    simp only [List.cons_append, List.nil_append] at hw6
    refine l_move rfl rfl rfl ?_
    refine l_extract rfl rfl rfl rfl ?_
    refine l_extract rfl rfl rfl rfl ?_
    refine l_assign rfl rfl rfl ?_
    refine l_assign rfl rfl rfl ?_
    refine l_nil ?_
    refine e_then ?_
    refine c_keep [1, 7, 15, 17, 18] (.cons rfl (.cons rfl (.cons rfl (.cons rfl (.cons rfl .nil))))) ?_
    refine c_seq ?_
    refine c_region ?_
    refine l_move rfl rfl rfl ?_
    refine l_move rfl rfl rfl ?_
    refine l_call rfl rfl Try.func29 rfl rfl (.cons rfl (.cons rfl .nil)) (prevB (9 + n % 2) (nxF (9 + n % 2) a2).1 (by omega) w6) ?_
    rintro _ w7 ⟨rfl, hG⟩
    have hw7 := hG _ _ _ _ hw6
    try clear hG hw6
    simp only [List.cons_append, List.nil_append] at hw7
    refine l_move rfl rfl rfl ?_
    refine l_extract rfl rfl rfl rfl ?_
    refine l_extract rfl rfl rfl rfl ?_
    refine l_assign rfl rfl rfl ?_
    refine l_assign rfl rfl rfl ?_
    refine l_nil ?_
    refine e_then ?_
    refine c_keep [1, 7, 17, 18, 19, 20] (.cons rfl (.cons rfl (.cons rfl (.cons rfl (.cons rfl (.cons rfl .nil)))))) ?_
    refine c_seq ?_
    refine c_region ?_
    refine l_move rfl rfl rfl ?_
    refine l_move rfl rfl rfl ?_
    refine l_move rfl rfl rfl ?_
    refine l_call rfl rfl Try.func27 rfl rfl (.cons rfl (.cons rfl (.cons rfl .nil))) (cmpB (9 + n % 2) (prF (9 + n % 2) (nxF (9 + n % 2) a2).1).1 a2 (by omega) (by omega) w7) ?_
    rintro _ w8 ⟨rfl, hG⟩
    have hw8 := hG _ _ _ _ hw7
    try clear hG hw7
    simp only [List.cons_append, List.nil_append] at hw8
    refine l_move rfl rfl rfl ?_
    refine l_extract rfl rfl rfl rfl ?_
    refine l_extract rfl rfl rfl rfl ?_
    refine l_assign rfl rfl rfl ?_
    refine l_assign rfl rfl rfl ?_
    refine l_nil ?_
    refine e_then ?_
    refine c_keep [17, 18, 20, 21, 22] (.cons rfl (.cons rfl (.cons rfl (.cons rfl (.cons rfl .nil))))) ?_
    refine c_seq ?_
    refine c_region ?_
    refine l_move rfl rfl rfl ?_
    refine l_callp rfl rfl Try.func13 rfl rfl (.cons rfl .nil) (num3 _ _) ?_
    refine l_eql rfl rfl rfl rfl ?_
    refine l_turn (s := 111) (v' := .bool true) rfl (by rw [hnf.1]; rfl) ?_
    refine l_move rfl rfl rfl ?_
    refine l_move rfl rfl rfl ?_
    refine l_eql rfl rfl rfl rfl ?_
    refine l_turn (s := 114) (v' := .bool true) rfl (by rw [hnf.1]; rfl) ?_
    refine l_pick_t rfl rfl rfl rfl ?_
    refine l_move rfl rfl rfl ?_
    refine l_move rfl rfl rfl ?_
    refine l_callp rfl rfl Try.func13 rfl rfl (.cons rfl .nil) (num3 _ _) ?_
    refine l_eql rfl rfl rfl rfl ?_
    refine l_turn (s := 119) (v' := .bool true) rfl (by rw [hnf.2.1]; rfl) ?_
    refine l_pick_t rfl rfl rfl rfl ?_
    refine l_move rfl rfl rfl ?_
    refine l_move rfl rfl rfl ?_
    refine l_callp rfl rfl Try.func13 rfl rfl (.cons rfl .nil) (num3 _ _) ?_
    refine l_eql rfl rfl rfl rfl ?_
    refine l_turn (s := 124) (v' := .bool true) rfl (by rw [hnf.2.2.2]; rfl) ?_
    refine l_pick_t rfl rfl rfl rfl ?_
    refine l_move rfl rfl rfl ?_
    refine l_move rfl rfl rfl ?_
    refine l_eql rfl rfl rfl rfl ?_
    refine l_turn (s := 128) (v' := .bool true) rfl (by rw [hnf.2.2.2]; rfl) ?_
    refine l_pick_t rfl rfl rfl rfl ?_
    refine l_move rfl rfl rfl ?_
    refine l_call rfl rfl Try.func14 rfl rfl .nil (wakes3 w8) ?_
    rintro _ w9 ⟨rfl, hG⟩
    have hw9 := hG _ _ _ _ hw8
    try clear hG hw8
    simp only [List.cons_append, List.nil_append] at hw9
    refine l_turn (s := 131) (v' := .bool true) rfl (by rfl) ?_
    refine l_pick_t rfl rfl rfl rfl ?_
    refine l_assign rfl rfl rfl ?_
    refine l_nil ?_
    refine e_then ?_
    refine c_keep [6] (.cons rfl .nil) ?_
    refine c_ret ?_
    refine e_done1 Try.results7 rfl ?_
    refine ⟨_, rfl, ?_⟩
    exact ⟨rfl, hw9.grows⟩
end Go.Proofs.Ytidbonodfmicgaa.W
