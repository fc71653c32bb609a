/- walks of the laws ShortDigits, ShortReads -/
import Derived.Test.YtmcbdgpcbcldjaaHe
import Derived.Test.YtmcbdgpcbcldjaaVr
set_option linter.unusedVariables false
set_option linter.unusedSimpArgs false
set_option maxRecDepth 10000
namespace Go.Proofs.Ytmcbdgpcbcldjaa.W
open Go.Vc Go.RowKit

instance (x y t : Int) : Decidable (TopR x y t) := by unfold TopR; infer_instance
set_option exponentiation.threshold 2000 in
theorem dig_tenth : DigE 10 4591870180066957722 1 (-1) 0 :=
  ⟨by decide +kernel, fun h => absurd rfl h, fun _ => ⟨.f64, rfl, by decide +kernel, by decide +kernel, by decide +kernel, -1, -1, ⟨by decide +kernel, Int.le_refl _, fun g h1 h2 => by omega, by decide +kernel⟩, by decide, 0, by decide +kernel, rfl⟩⟩
set_option exponentiation.threshold 2000 in
theorem big_no : ∀ i : Fin 16, ¬ hit .f64 (9218868437227405311 % Kd.f64.S) (fX .f64 (9218868437227405311 % Kd.f64.S)) (fY .f64 (9218868437227405311 % Kd.f64.S)) (293 + i.val) := by decide +kernel
set_option exponentiation.threshold 2000 in
theorem dig_big : DigE 10 9218868437227405311 17976931348623157 292 0 :=
  ⟨by decide +kernel, fun h => absurd rfl h, fun _ => ⟨.f64, rfl, by decide +kernel, by decide +kernel, by decide +kernel, 308, 292, ⟨by decide +kernel, by decide, fun g h1 h2 => by
    have := big_no ⟨(g - 293).toNat, by omega⟩
    rwa [show (293 : Int) + (((g - 293).toNat : Nat) : Int) = g from by omega] at this, by decide +kernel⟩, by decide, 0, by decide +kernel, rfl⟩⟩


theorem pow10_le19 {m : Int} {j : Nat} (h : 0 < m) (h2 : m * 10 ^ j ≤ 10000000000000000000) : j ≤ 19 := by
  rcases Nat.lt_or_ge 19 j with h1 | h1
  · exfalso
    have h3 := Ma.pow_mono (show (1 : Int) ≤ 10 by omega) (show 20 ≤ j by omega)
    have h19 : (10 : Int) ^ 20 = 100000000000000000000 := by decide
    have h4 : 1 * 10 ^ j ≤ m * 10 ^ j := Int.mul_le_mul_of_nonneg_right (by omega) (Int.le_of_lt (p10 j))
    omega
  · exact h1

theorem numL10 (x : Int) (w : World) :
    CallsV P 10 [.int .i64 x] w fun r w' => r = .int .i64 x ∧ w = w' := by
  refine enterW Try.func10 rfl Try.ntmps10 rfl ?_
  refine c_seq ?_
  refine c_region ?_
  refine l_assign rfl rfl rfl ?_
  refine l_nil ?_
  refine e_then ?_
  refine c_keep [0] (.cons rfl .nil) ?_
  refine c_seq ?_
  refine c_region ?_
  refine l_move rfl rfl rfl ?_
  refine l_assign rfl rfl rfl ?_
  refine l_nil ?_
  refine e_then ?_
  refine c_keep [2] (.cons rfl .nil) ?_
  refine c_ret ?_
  refine e_done1 Try.results10 rfl ?_
  refine ⟨_, rfl, ?_⟩
  exact ⟨rfl, rfl⟩
theorem kindL10 (n : Int) (hn : -9223372036854775808 ≤ n ∧ n ≤ 9223372036854775807) (w : World) :
    CallsV P 12 [.int .i64 n] w fun r w' => ∃ k, r = .int .i64 k ∧ w = w' := by
  refine enterW Try.func12 rfl Try.ntmps12 rfl ?_
  refine c_seq ?_
  refine c_region ?_
  refine l_assign rfl rfl rfl ?_
  refine l_nil ?_
  refine e_then ?_
  refine c_keep [0] (.cons rfl .nil) ?_
  refine c_seq ?_
  refine c_seq ?_
  refine c_region ?_
  refine l_move rfl rfl rfl ?_
  refine l_bits rfl rfl rfl rfl rfl (rfl) ?_
  refine l_eql rfl rfl rfl rfl ?_
  refine l_nil ?_
  refine e_then ?_
  refine c_keep [0, 5] (.cons rfl (.cons rfl .nil)) ?_
  first | refine c_cond rfl (fun hc0 => ?_) (fun hc0 => ?_) | refine c_condb rfl (fun hc0 => ?_) (fun hc0 => ?_)
  · skip
    refine c_seq ?_
    refine c_region ?_
    refine l_move rfl rfl rfl ?_
    refine l_shr rfl rfl rfl rfl (by omega) (shr_eq (d := 32) (by decide) (by decide)) ?_
    refine l_assign rfl rfl rfl ?_
    refine l_nil ?_
    refine e_then ?_
    refine c_keep [2] (.cons rfl .nil) ?_
    refine c_ret ?_
    refine e_then_ret ?_
    refine e_done1 Try.results12 rfl ?_
    refine ⟨_, rfl, ?_⟩
    exact ⟨_, rfl, rfl⟩
  · skip
    refine c_skip ?_
    refine e_then ?_
    refine c_keep [0] (.cons rfl .nil) ?_
    refine c_seq ?_
    refine c_region ?_
    refine l_move rfl rfl rfl ?_
    refine l_bits rfl rfl rfl rfl rfl (rfl) ?_
    refine l_add rfl rfl rfl rfl (rfl) ?_
    refine l_assign rfl rfl rfl ?_
    refine l_nil ?_
    refine e_then ?_
    refine c_keep [2] (.cons rfl .nil) ?_
    refine c_ret ?_
    refine e_done1 Try.results12 rfl ?_
    refine ⟨_, rfl, ?_⟩
    exact ⟨_, rfl, rfl⟩
theorem fitL10 (k b : Int) (hb : 0 ≤ b ∧ b ≤ 18446744073709551615) (w : World) :
    CallsV P 16 [.int .i64 k, .int .u64 b] w fun r w' => r = .int .u64 (if k = 9 then b % 4294967296 else b) ∧ w = w' := by
  refine enterW Try.func16 rfl Try.ntmps16 rfl ?_
  refine c_seq ?_
  refine c_region ?_
  refine l_assign rfl rfl rfl ?_
  refine l_nil ?_
  refine e_then ?_
  refine c_keep [0, 1] (.cons rfl (.cons rfl .nil)) ?_
  refine c_seq ?_
  refine c_seq ?_
  refine c_region ?_
  refine l_move rfl rfl rfl ?_
  refine l_eql rfl rfl rfl rfl ?_
  refine l_nil ?_
  refine e_then ?_
  refine c_keep [1, 6] (.cons rfl (.cons rfl .nil)) ?_
  first | refine c_cond rfl (fun hc0 => ?_) (fun hc0 => ?_) | refine c_condb rfl (fun hc0 => ?_) (fun hc0 => ?_)
  · skip
    refine c_seq ?_
    refine c_region ?_
    refine l_move rfl rfl rfl ?_
    refine l_rem rfl rfl rfl rfl (by omega) (r_pos (by omega)) ?_
    refine l_assign rfl rfl rfl ?_
    refine l_nil ?_
    refine e_then ?_
    refine c_keep [4] (.cons rfl .nil) ?_
    refine c_ret ?_
    refine e_then_ret ?_
    refine e_done1 Try.results16 rfl ?_
    refine ⟨_, rfl, ?_⟩
    exact ⟨by rw [if_pos hc0], rfl⟩
  · skip
    refine c_skip ?_
    refine e_then ?_
    refine c_keep [1] (.cons rfl .nil) ?_
    refine c_seq ?_
    refine c_region ?_
    refine l_move rfl rfl rfl ?_
    refine l_assign rfl rfl rfl ?_
    refine l_nil ?_
    refine e_then ?_
    refine c_keep [4] (.cons rfl .nil) ?_
    refine c_ret ?_
    refine e_done1 Try.results16 rfl ?_
    refine ⟨_, rfl, ?_⟩
    exact ⟨by rw [if_neg hc0], rfl⟩
theorem wakesL10  (w : World) :
    CallsV P 11 [] w fun r w' => r = .bool true ∧ Grow w w' [] := by
  refine enterW Try.func11 rfl Try.ntmps11 rfl ?_
  have hw0 := St.start w
  refine c_seq ?_
  refine c_region ?_
  refine l_assign rfl rfl rfl ?_
  refine l_nil ?_
  refine e_then ?_
  refine c_keep [] .nil ?_
  refine c_seq ?_
  refine c_region ?_
  refine l_call rfl rfl Try.func9 rfl rfl (.cons rfl (.cons rfl .nil)) (DigitsF 10 4591870180066957722 (by omega) w) ?_
  rintro _ w1 ⟨m, e, er, rfl, hE, hG⟩
  have hw1 := hG _ _ _ _ hw0
  try clear hG hw0
  simp only [List.cons_append, List.nil_append] at hw1
  obtain ⟨rfl, rfl, rfl⟩ := hE.unique dig_tenth
  refine l_move rfl rfl rfl ?_
  refine l_extract rfl rfl rfl rfl ?_
  refine l_extract rfl rfl rfl rfl ?_
  refine l_extract rfl rfl rfl rfl ?_
  refine l_assign rfl rfl rfl ?_
  refine l_assign rfl rfl rfl ?_
  refine l_assign rfl rfl rfl ?_
  refine l_nil ?_
  refine e_then ?_
  refine c_keep [1, 2, 3] (.cons rfl (.cons rfl (.cons rfl .nil))) ?_
  refine c_seq ?_
  refine c_region ?_
  refine l_call rfl rfl Try.func9 rfl rfl (.cons rfl (.cons rfl .nil)) (DigitsF 10 9218868437227405311 (by omega) w1) ?_
  rintro _ w2 ⟨m2, e2, er2, rfl, hE2, hG⟩
  have hw2 := hG _ _ _ _ hw1
  try clear hG hw1
  simp only [List.cons_append, List.nil_append] at hw2
  obtain ⟨rfl, rfl, rfl⟩ := hE2.unique dig_big
  refine l_move rfl rfl rfl ?_
  refine l_extract rfl rfl rfl rfl ?_
  refine l_extract rfl rfl rfl rfl ?_
  refine l_extract rfl rfl rfl rfl ?_
  refine l_assign rfl rfl rfl ?_
  refine l_assign rfl rfl rfl ?_
  refine l_assign rfl rfl rfl ?_
  refine l_nil ?_
  refine e_then ?_
  refine c_keep [1, 2, 3, 4, 5, 6] (.cons rfl (.cons rfl (.cons rfl (.cons rfl (.cons rfl (.cons rfl .nil)))))) ?_
  refine c_seq ?_
  refine c_region ?_
  refine l_move rfl rfl rfl ?_
  refine l_callp rfl rfl Try.func10 rfl rfl (.cons rfl .nil) (numL10 _ _) ?_
  refine l_eql rfl rfl rfl rfl ?_
  refine l_turn (s := 19) (v' := .bool true) rfl (by simp) ?_
  refine l_move rfl rfl rfl ?_
  refine l_move rfl rfl rfl ?_
  refine l_eql rfl rfl rfl rfl ?_
  refine l_turn (s := 22) (v' := .bool true) rfl (by simp) ?_
  refine l_pick_t rfl rfl rfl rfl ?_
  refine l_move rfl rfl rfl ?_
  refine l_move rfl rfl rfl ?_
  refine l_eql rfl rfl rfl rfl ?_
  refine l_turn (s := 26) (v' := .bool true) rfl (by simp) ?_
  refine l_pick_t rfl rfl rfl rfl ?_
  refine l_move rfl rfl rfl ?_
  refine l_move rfl rfl rfl ?_
  refine l_callp rfl rfl Try.func10 rfl rfl (.cons rfl .nil) (numL10 _ _) ?_
  refine l_eql rfl rfl rfl rfl ?_
  refine l_turn (s := 31) (v' := .bool true) rfl (by simp) ?_
  refine l_pick_t rfl rfl rfl rfl ?_
  refine l_move rfl rfl rfl ?_
  refine l_move rfl rfl rfl ?_
  refine l_eql rfl rfl rfl rfl ?_
  refine l_turn (s := 35) (v' := .bool true) rfl (by simp) ?_
  refine l_pick_t rfl rfl rfl rfl ?_
  refine l_move rfl rfl rfl ?_
  refine l_move rfl rfl rfl ?_
  refine l_eql rfl rfl rfl rfl ?_
  refine l_turn (s := 39) (v' := .bool true) rfl (by simp) ?_
  refine l_pick_t rfl rfl rfl rfl ?_
  refine l_assign rfl rfl rfl ?_
  refine l_nil ?_
  refine e_then ?_
  refine c_keep [0] (.cons rfl .nil) ?_
  refine c_ret ?_
  refine e_done1 Try.results11 rfl ?_
  refine ⟨_, rfl, ?_⟩
  exact ⟨rfl, hw2.grows⟩
theorem shortDigitsL (n b : Int) (hn : -9223372036854775808 ≤ n ∧ n ≤ 9223372036854775807) (hb : 0 ≤ b ∧ b ≤ 18446744073709551615) (w : World) :
    CallsV P 7 [.int .i64 n, .int .u64 b] w fun r w' => r = .bool true ∧ Grow w w' [] := by
  refine enterW Try.func7 rfl Try.ntmps7 rfl ?_
  have hw0 := St.start w
  refine c_seq ?_
  refine c_region ?_
  refine l_assign rfl rfl rfl ?_
  refine l_nil ?_
  refine e_then ?_
  refine c_keep [0, 1] (.cons rfl (.cons rfl .nil)) ?_
  refine c_seq ?_
  refine c_region ?_
  refine l_move rfl rfl rfl ?_
  refine l_call rfl rfl Try.func12 rfl rfl (.cons rfl .nil) (kindL10 n hn w) ?_
  rintro _ _ ⟨k, rfl, rfl⟩
  refine l_assign rfl rfl rfl ?_
  refine l_nil ?_
  refine e_then ?_
  refine c_keep [1, 5] (.cons rfl (.cons rfl .nil)) ?_
  refine c_seq ?_
  refine c_region ?_
  refine l_move rfl rfl rfl ?_
  refine l_move rfl rfl rfl ?_
  refine l_call rfl rfl Try.func9 rfl rfl (.cons rfl (.cons rfl .nil)) (DigitsF k b hb w) ?_
  rintro _ w1 ⟨m, e, er, rfl, hE, hG⟩
  have hw1 := hG _ _ _ _ hw0
  try clear hG hw0
  simp only [List.cons_append, List.nil_append] at hw1
  refine l_move rfl rfl rfl ?_
  refine l_extract rfl rfl rfl rfl ?_
  refine l_extract rfl rfl rfl rfl ?_
  refine l_extract rfl rfl rfl rfl ?_
  refine l_assign rfl rfl rfl ?_
  refine l_assign rfl rfl rfl ?_
  refine l_assign rfl rfl rfl ?_
  refine l_nil ?_
  refine e_then ?_
  refine c_keep [1, 5, 6, 7, 8] (.cons rfl (.cons rfl (.cons rfl (.cons rfl (.cons rfl .nil))))) ?_
  refine c_seq ?_
  refine c_region ?_
  refine l_move rfl rfl rfl ?_
  refine l_move rfl rfl rfl ?_
  refine l_call rfl rfl Try.func15 rfl rfl (.cons rfl (.cons rfl .nil)) (Digits10 k b hb w1) ?_
  rintro _ w2 ⟨m2, e2, er2, rfl, hE2, hG⟩
  have hw2 := hG _ _ _ _ hw1
  try clear hG hw1
  simp only [List.cons_append, List.nil_append] at hw2
  obtain ⟨rfl, rfl, rfl⟩ := hE.unique hE2
  refine l_move rfl rfl rfl ?_
  refine l_extract rfl rfl rfl rfl ?_
  refine l_extract rfl rfl rfl rfl ?_
  refine l_extract rfl rfl rfl rfl ?_
  refine l_assign rfl rfl rfl ?_
  refine l_assign rfl rfl rfl ?_
  refine l_assign rfl rfl rfl ?_
  refine l_nil ?_
  refine e_then ?_
  refine c_keep [1, 5, 6, 7, 8, 9, 10, 11] (.cons rfl (.cons rfl (.cons rfl (.cons rfl (.cons rfl (.cons rfl (.cons rfl (.cons rfl .nil)))))))) ?_
  refine c_seq ?_
  refine c_region ?_
  refine l_move rfl rfl rfl ?_
  refine l_move rfl rfl rfl ?_
  refine l_call rfl rfl Try.func27 rfl rfl (.cons rfl (.cons rfl .nil)) (CountF k b hb w2) ?_
  rintro _ w3 ⟨m3, e3, er3, rfl, hE3, hG⟩
  have hw3 := hG _ _ _ _ hw2
  try clear hG hw2
  simp only [List.cons_append, List.nil_append] at hw3
  obtain ⟨rfl, rfl, rfl⟩ := hE.unique hE3
  refine l_move rfl rfl rfl ?_
  refine l_extract rfl rfl rfl rfl ?_
  refine l_extract rfl rfl rfl rfl ?_
  refine l_assign rfl rfl rfl ?_
  refine l_assign rfl rfl rfl ?_
  refine l_nil ?_
  refine e_then ?_
  refine c_keep [1, 5, 6, 7, 8, 9, 10, 11, 12, 13] (.cons rfl (.cons rfl (.cons rfl (.cons rfl (.cons rfl (.cons rfl (.cons rfl (.cons rfl (.cons rfl (.cons rfl .nil)))))))))) ?_
  refine c_seq ?_
  refine c_region ?_
  refine l_move rfl rfl rfl ?_
  refine l_move rfl rfl rfl ?_
  refine l_call rfl rfl Try.func28 rfl rfl (.cons rfl (.cons rfl .nil)) (Count10 k b hb w3) ?_
  rintro _ w4 ⟨m4, e4, er4, rfl, hE4, hG⟩
  have hw4 := hG _ _ _ _ hw3
  try clear hG hw3
  simp only [List.cons_append, List.nil_append] at hw4
  obtain ⟨rfl, rfl, rfl⟩ := hE.unique hE4
  refine l_move rfl rfl rfl ?_
  refine l_extract rfl rfl rfl rfl ?_
  refine l_extract rfl rfl rfl rfl ?_
  refine l_assign rfl rfl rfl ?_
  refine l_assign rfl rfl rfl ?_
  refine l_nil ?_
  refine e_then ?_
  refine c_keep [6, 7, 8, 9, 10, 11, 12, 13, 14, 15] (.cons rfl (.cons rfl (.cons rfl (.cons rfl (.cons rfl (.cons rfl (.cons rfl (.cons rfl (.cons rfl (.cons rfl .nil)))))))))) ?_
  refine c_seq ?_
  refine c_region ?_
  refine l_move rfl rfl rfl ?_
  refine l_move rfl rfl rfl ?_
  refine l_eql rfl rfl rfl rfl ?_
  refine l_turn (s := 46) (v' := .bool true) rfl (by simp) ?_
  refine l_move rfl rfl rfl ?_
  refine l_move rfl rfl rfl ?_
  refine l_move rfl rfl rfl ?_
  refine l_eql rfl rfl rfl rfl ?_
  refine l_turn (s := 50) (v' := .bool true) rfl (by simp) ?_
  refine l_pick_t rfl rfl rfl rfl ?_
  refine l_move rfl rfl rfl ?_
  refine l_move rfl rfl rfl ?_
  refine l_callp rfl rfl Try.func10 rfl rfl (.cons rfl .nil) (numL10 _ _) ?_
  refine l_move rfl rfl rfl ?_
  refine l_eql rfl rfl rfl rfl ?_
  refine l_turn (s := 56) (v' := .bool true) rfl (by simp) ?_
  refine l_pick_t rfl rfl rfl rfl ?_
  refine l_move rfl rfl rfl ?_
  refine l_move rfl rfl rfl ?_
  refine l_move rfl rfl rfl ?_
  refine l_eql rfl rfl rfl rfl ?_
  refine l_turn (s := 61) (v' := .bool true) rfl (by simp) ?_
  refine l_pick_t rfl rfl rfl rfl ?_
  refine l_move rfl rfl rfl ?_
  refine l_move rfl rfl rfl ?_
  refine l_callp rfl rfl Try.func10 rfl rfl (.cons rfl .nil) (numL10 _ _) ?_
  refine l_move rfl rfl rfl ?_
  refine l_eql rfl rfl rfl rfl ?_
  refine l_turn (s := 67) (v' := .bool true) rfl (by simp) ?_
  refine l_pick_t rfl rfl rfl rfl ?_
  refine l_move rfl rfl rfl ?_
  refine l_call rfl rfl Try.func11 rfl rfl .nil (wakesL10 w4) ?_
  rintro _ w5 ⟨rfl, hG⟩
  have hw5 := hG _ _ _ _ hw4
  try clear hG hw4
  simp only [List.cons_append, List.nil_append] at hw5
  refine l_turn (s := 70) (v' := .bool true) rfl (by rfl) ?_
  refine l_pick_t rfl rfl rfl rfl ?_
  refine l_assign rfl rfl rfl ?_
  refine l_nil ?_
  refine e_then ?_
  refine c_keep [4] (.cons rfl .nil) ?_
  refine c_ret ?_
  refine e_done1 Try.results7 rfl ?_
  refine ⟨_, rfl, ?_⟩
  exact ⟨rfl, hw5.grows⟩
theorem shortReadsL (n b : Int) (hn : -9223372036854775808 ≤ n ∧ n ≤ 9223372036854775807) (hb : 0 ≤ b ∧ b ≤ 18446744073709551615) (man exp near : Int) (hm : 0 ≤ man ∧ man ≤ 18446744073709551615) (he : -9223372036854775808 ≤ exp ∧ exp ≤ 9223372036854775807) (hne : -9223372036854775808 ≤ near ∧ near ≤ 9223372036854775807) (w : World) :
    CallsV P 4 [.int .i64 n, .int .u64 b, .int .u64 man, .int .i64 exp, .int .i64 near] w fun r w' => r = .bool true ∧ Grow w w' [] := by
  refine enterW Try.func4 rfl Try.ntmps4 rfl ?_
  have hw0 := St.start w
  refine c_seq ?_
  refine c_region ?_
  refine l_assign rfl rfl rfl ?_
  refine l_nil ?_
  refine e_then ?_
  refine c_keep [0, 1, 2, 3, 4] (.cons rfl (.cons rfl (.cons rfl (.cons rfl (.cons rfl .nil))))) ?_
  refine c_seq ?_
  refine c_region ?_
  refine l_move rfl rfl rfl ?_
  refine l_call rfl rfl Try.func12 rfl rfl (.cons rfl .nil) (kindL10 n hn w) ?_
  rintro _ _ ⟨k, rfl, rfl⟩
  refine l_assign rfl rfl rfl ?_
  refine l_nil ?_
  refine e_then ?_
  refine c_keep [1, 2, 3, 4, 11] (.cons rfl (.cons rfl (.cons rfl (.cons rfl (.cons rfl .nil))))) ?_
  refine c_seq ?_
  refine c_region ?_
  refine l_move rfl rfl rfl ?_
  refine l_move rfl rfl rfl ?_
  refine l_move rfl rfl rfl ?_
  refine l_move rfl rfl rfl ?_
  refine l_call rfl rfl Try.func13 rfl rfl (.cons rfl (.cons rfl (.cons rfl (.cons rfl .nil)))) (ReadsF k b hb man exp hm he w) ?_
  rintro _ w1 ⟨rfl, hG⟩
  have hw1 := hG _ _ _ _ hw0
  try clear hG hw0
  simp only [List.cons_append, List.nil_append] at hw1
  refine l_move rfl rfl rfl ?_
  refine l_extract rfl rfl rfl rfl ?_
  refine l_extract rfl rfl rfl rfl ?_
  refine l_assign rfl rfl rfl ?_
  refine l_assign rfl rfl rfl ?_
  refine l_nil ?_
  refine e_then ?_
  refine c_keep [1, 2, 3, 4, 11, 12, 13] (.cons rfl (.cons rfl (.cons rfl (.cons rfl (.cons rfl (.cons rfl (.cons rfl .nil))))))) ?_
  refine c_seq ?_
  refine c_region ?_
  refine l_move rfl rfl rfl ?_
  refine l_move rfl rfl rfl ?_
  refine l_move rfl rfl rfl ?_
  refine l_move rfl rfl rfl ?_
  refine l_call rfl rfl Try.func14 rfl rfl (.cons rfl (.cons rfl (.cons rfl (.cons rfl .nil)))) (Reads10 k b hb man exp hm he w1) ?_
  rintro _ w2 ⟨rfl, hG⟩
  have hw2 := hG _ _ _ _ hw1
  try clear hG hw1
  simp only [List.cons_append, List.nil_append] at hw2
  refine l_move rfl rfl rfl ?_
  refine l_extract rfl rfl rfl rfl ?_
  refine l_extract rfl rfl rfl rfl ?_
  refine l_assign rfl rfl rfl ?_
  refine l_assign rfl rfl rfl ?_
  refine l_nil ?_
  refine e_then ?_
  refine c_keep [1, 4, 11, 12, 13, 14, 15] (.cons rfl (.cons rfl (.cons rfl (.cons rfl (.cons rfl (.cons rfl (.cons rfl .nil))))))) ?_
  refine c_seq ?_
  refine c_seq ?_
  refine c_region ?_
  refine l_move rfl rfl rfl ?_
  refine l_move rfl rfl rfl ?_
  refine l_neqb Try.underlying4 rfl rfl rfl rfl ?_
  refine l_turn (s := 39) (v' := .bool false) rfl (by simp) ?_
  refine l_move rfl rfl rfl ?_
  refine l_move rfl rfl rfl ?_
  refine l_callp rfl rfl Try.func10 rfl rfl (.cons rfl .nil) (numL10 _ _) ?_
  refine l_move rfl rfl rfl ?_
  refine l_neq rfl rfl rfl rfl ?_
  refine l_turn (s := 44) (v' := .bool false) rfl (by simp) ?_
  refine l_pick_f rfl rfl rfl rfl ?_
  refine l_nil ?_
  refine e_then ?_
  refine c_keep [1, 4, 11, 45] (.cons rfl (.cons rfl (.cons rfl (.cons rfl .nil)))) ?_
  refine c_cond_f rfl rfl ?_
  refine c_skip ?_
  refine e_then ?_
  refine c_keep [1, 4, 11] (.cons rfl (.cons rfl (.cons rfl .nil))) ?_
  refine c_seq ?_
  refine c_region ?_
  refine l_move rfl rfl rfl ?_
  refine l_move rfl rfl rfl ?_
  refine l_call rfl rfl Try.func15 rfl rfl (.cons rfl (.cons rfl .nil)) (Digits10 k b hb w2) ?_
  rintro _ w3 ⟨m0, x0, er, rfl, hE, hG⟩
  have hw3 := hG _ _ _ _ hw2
  try clear hG hw2
  simp only [List.cons_append, List.nil_append] at hw3
  have hbdE := hE.bd
  refine l_move rfl rfl rfl ?_
  refine l_extract rfl rfl rfl rfl ?_
  refine l_extract rfl rfl rfl rfl ?_
  refine l_extract rfl rfl rfl rfl ?_
  refine l_assign rfl rfl rfl ?_
  refine l_assign rfl rfl rfl ?_
  refine l_assign rfl rfl rfl ?_
  refine l_nil ?_
  refine e_then ?_
  refine c_keep [1, 4, 11, 16, 17, 18] (.cons rfl (.cons rfl (.cons rfl (.cons rfl (.cons rfl (.cons rfl .nil)))))) ?_
  refine c_seq ?_
  refine c_seq ?_
  refine c_region ?_
  refine l_move rfl rfl rfl ?_
  refine l_neq rfl rfl rfl rfl ?_
  refine l_nil ?_
  refine e_then ?_
  refine c_keep [1, 4, 11, 16, 17, 54] (.cons rfl (.cons rfl (.cons rfl (.cons rfl (.cons rfl (.cons rfl .nil)))))) ?_
  first | refine c_cond rfl (fun hc1 => ?_) (fun hc1 => ?_) | refine c_condb rfl (fun hc1 => ?_) (fun hc1 => ?_)
  · skip
    refine c_seq ?_
    refine c_region ?_
    refine l_call rfl rfl Try.func11 rfl rfl .nil (wakesL10 w3) ?_
    rintro _ w4 ⟨rfl, hG⟩
    have hw4 := hG _ _ _ _ hw3
    try clear hG hw3
    simp only [List.cons_append, List.nil_append] at hw4
    refine l_assign rfl rfl rfl ?_
    refine l_nil ?_
    refine e_then ?_
    refine c_keep [10] (.cons rfl .nil) ?_
    refine c_ret ?_
    refine e_then_ret ?_
    refine e_done1 Try.results4 rfl ?_
    refine ⟨_, rfl, ?_⟩
    exact ⟨rfl, hw4.grows⟩
  · skip
    have hm0p := hbdE.2.2.2.2 (by omega)
    refine c_skip ?_
    refine e_then ?_
    refine c_keep [1, 4, 11, 16, 17] (.cons rfl (.cons rfl (.cons rfl (.cons rfl (.cons rfl .nil))))) ?_
    refine c_seq ?_
    refine c_block ?_
    refine c_loopk (ι := Nat × Int) (fun (z0 : Nat × Int) => match z0 with | ⟨j, m⟩ => (1000000000000000 - m).toNat) (fun (z0 : Nat × Int) (w' : World) => match z0 with | ⟨j, m⟩ => St w w.heap.size None' ([]) w' ∧ m = m0 * 10 ^ j ∧ 0 < m ∧ m ≤ 10000000000000000000) (fun (z0 : Nat × Int) => match z0 with | ⟨j, m⟩ => [(16, .int .u64 m), (17, .int .i64 (x0 - (j : Int)))]) [1, 4, 11] (0, m0) ?_ (.cons rfl (.cons rfl (.cons rfl .nil))) ?_ ?_
    · exact ⟨hw3, by simp, by omega, by omega⟩
    · exact (.cons rfl (by first | rfl | (refine congrArg (Value.int _) ?_; omega)) (.cons rfl (by first | rfl | (refine congrArg (Value.int _) ?_; omega)) .nil))
    rintro ⟨j, m⟩ w5 ⟨hw5, hmj, hmp, hm1⟩
    show RunC P _ _ _ (_ :: _) _
    have hj : j ≤ 19 := pow10_le19 (m := m0) (j := j) (by omega) (by omega)
    refine c_seq ?_
    refine c_seq ?_
    refine c_region ?_
    refine l_move rfl rfl rfl ?_
    refine l_lss rfl rfl rfl rfl ?_
    refine l_nil ?_
    refine e_then ?_
    refine c_keep [1, 4, 11, 16, 17, 57] (.cons rfl (.cons rfl (.cons rfl (.cons rfl (.cons rfl (.cons rfl .nil)))))) ?_
    first | refine c_cond rfl (fun hc2 => ?_) (fun hc2 => ?_) | refine c_condb rfl (fun hc2 => ?_) (fun hc2 => ?_)
    · skip
      refine c_skip ?_
      refine e_then ?_
      refine c_keep [1, 4, 11, 16, 17] (.cons rfl (.cons rfl (.cons rfl (.cons rfl (.cons rfl .nil))))) ?_
      refine c_block ?_
      refine c_seq ?_
      refine c_region ?_
      refine l_move rfl rfl rfl ?_
      refine l_mul rfl rfl rfl rfl (w_u64 (by omega)) ?_
      refine l_assign rfl rfl rfl ?_
      refine l_nil ?_
      refine e_then ?_
      refine c_keep [1, 4, 11, 16, 17] (.cons rfl (.cons rfl (.cons rfl (.cons rfl (.cons rfl .nil))))) ?_
      refine c_region ?_
      refine l_move rfl rfl rfl ?_
      refine l_sub rfl rfl rfl rfl (w_i64 (by omega)) ?_
      refine l_assign rfl rfl rfl ?_
      refine l_nil ?_
      refine e_blk ?_
      refine e_againk (i := (j, m)) (j + 1, 10 * m) ?_ ?_ (.cons rfl (.cons rfl (.cons rfl .nil))) ?_
      · first | omega | (simp; omega)
      · exact ⟨hw5, by rw [Int.pow_succ, ← Int.mul_assoc, ← hmj, Int.mul_comm], by omega, by omega⟩
      · exact (.cons rfl (by first | rfl | (refine congrArg (Value.int _) ?_; omega)) (.cons rfl (by first | rfl | (refine congrArg (Value.int _) ?_; omega)) .nil))
    · skip
      refine c_exit ?_
      refine e_then_exit ?_
      refine e_then_exit ?_
      refine e_blk_exit ?_
      refine e_then ?_
      refine c_keep [1, 4, 11, 16, 17] (.cons rfl (.cons rfl (.cons rfl (.cons rfl (.cons rfl .nil))))) ?_
      refine c_seq ?_
      refine c_region ?_
      refine l_move rfl rfl rfl ?_
      refine l_move rfl rfl rfl ?_
      refine l_rem rfl rfl rfl rfl (by omega) (rfl) ?_
      refine l_conv rfl rfl Try.underlying3 Try.underlying22 rfl (w_u64m _) ?_
      refine l_add rfl rfl rfl rfl (w_u64m _) ?_
      refine l_assign rfl rfl rfl ?_
      refine l_nil ?_
      refine e_then ?_
      refine c_keep [1, 11, 16, 17] (.cons rfl (.cons rfl (.cons rfl (.cons rfl .nil)))) ?_
      refine c_seq ?_
      refine c_region ?_
      refine l_move rfl rfl rfl ?_
      refine l_move rfl rfl rfl ?_
      refine l_move rfl rfl rfl ?_
      refine l_move rfl rfl rfl ?_
      refine l_call rfl rfl Try.func13 rfl rfl (.cons rfl (.cons rfl (.cons rfl (.cons rfl .nil)))) (ReadsF k b hb ((m + near.tmod 4000 % 18446744073709551616) % 18446744073709551616) (x0 - j) (by omega) (by omega) w5) ?_
      rintro _ w6 ⟨rfl, hG⟩
      have hw6 := hG _ _ _ _ hw5
      try clear hG hw5
      simp only [List.cons_append, List.nil_append] at hw6
      refine l_move rfl rfl rfl ?_
      refine l_extract rfl rfl rfl rfl ?_
      refine l_extract rfl rfl rfl rfl ?_
      refine l_assign rfl rfl rfl ?_
      refine l_assign rfl rfl rfl ?_
      refine l_nil ?_
      refine e_then ?_
      refine c_keep [1, 11, 12, 13, 16, 17] (.cons rfl (.cons rfl (.cons rfl (.cons rfl (.cons rfl (.cons rfl .nil)))))) ?_
      refine c_seq ?_
      refine c_region ?_
      refine l_move rfl rfl rfl ?_
      refine l_move rfl rfl rfl ?_
      refine l_move rfl rfl rfl ?_
      refine l_move rfl rfl rfl ?_
      refine l_call rfl rfl Try.func14 rfl rfl (.cons rfl (.cons rfl (.cons rfl (.cons rfl .nil)))) (Reads10 k b hb ((m + near.tmod 4000 % 18446744073709551616) % 18446744073709551616) (x0 - j) (by omega) (by omega) w6) ?_
      rintro _ w7 ⟨rfl, hG⟩
      have hw7 := hG _ _ _ _ hw6
      try clear hG hw6
      simp only [List.cons_append, List.nil_append] at hw7
      refine l_move rfl rfl rfl ?_
      refine l_extract rfl rfl rfl rfl ?_
      refine l_extract rfl rfl rfl rfl ?_
      refine l_assign rfl rfl rfl ?_
      refine l_assign rfl rfl rfl ?_
      refine l_nil ?_
      refine e_then ?_
      refine c_keep [12, 13, 14, 15] (.cons rfl (.cons rfl (.cons rfl (.cons rfl .nil)))) ?_
      refine c_seq ?_
      refine c_region ?_
      refine l_move rfl rfl rfl ?_
      refine l_move rfl rfl rfl ?_
      refine l_eqlb Try.underlying4 rfl rfl rfl rfl ?_
      refine l_turn (s := 85) (v' := .bool true) rfl (by simp) ?_
      refine l_move rfl rfl rfl ?_
      refine l_move rfl rfl rfl ?_
      refine l_callp rfl rfl Try.func10 rfl rfl (.cons rfl .nil) (numL10 _ _) ?_
      refine l_move rfl rfl rfl ?_
      refine l_eql rfl rfl rfl rfl ?_
      refine l_turn (s := 90) (v' := .bool true) rfl (by simp) ?_
      refine l_pick_t rfl rfl rfl rfl ?_
      refine l_move rfl rfl rfl ?_
      refine l_call rfl rfl Try.func11 rfl rfl .nil (wakesL10 w7) ?_
      rintro _ w8 ⟨rfl, hG⟩
      have hw8 := hG _ _ _ _ hw7
      try clear hG hw7
      simp only [List.cons_append, List.nil_append] at hw8
      refine l_turn (s := 93) (v' := .bool true) rfl (by rfl) ?_
      refine l_pick_t rfl rfl rfl rfl ?_
      refine l_assign rfl rfl rfl ?_
      refine l_nil ?_
      refine e_then ?_
      refine c_keep [10] (.cons rfl .nil) ?_
      refine c_ret ?_
      refine e_done1 Try.results4 rfl ?_
      refine ⟨_, rfl, ?_⟩
      exact ⟨rfl, hw8.grows⟩
theorem rdP_ten {d : Kd} {b m e : Int} : rdP d b (m * 10) e ↔ rdP d b m (e + 1) := by
  unfold rdP
  rcases Int.lt_or_le e 0 with h | h
  · rw [show e.toNat = 0 from by omega, show (e + 1).toNat = 0 from by omega, show (-e).toNat = (-(e + 1)).toNat + 1 from by omega, Int.pow_succ, Int.pow_zero, Int.mul_one, Int.mul_one, Int.mul_right_comm m, ← Int.mul_assoc (fv d.H (b - 1) + fv d.H b), ← Int.mul_assoc (fv d.H b + fv d.H (b + 1))]
    generalize (fv d.H (b - 1) + fv d.H b) * 10 ^ (-(e + 1)).toNat = A
    generalize (fv d.H b + fv d.H (b + 1)) * 10 ^ (-(e + 1)).toNat = B
    generalize m * 2 ^ d.l = C
    omega
  · rw [show (-e).toNat = 0 from by omega, show (-(e + 1)).toNat = 0 from by omega, show (e + 1).toNat = e.toNat + 1 from by omega, Int.pow_succ, Int.mul_comm (10 ^ e.toNat) 10, ← Int.mul_assoc m]
theorem rdP_pow {d : Kd} {b m e : Int} : ∀ j : Nat, rdP d b (m * 10 ^ j) e ↔ rdP d b m (e + j)
  | 0 => by simp
  | j + 1 => by
    have h := rdP_pow (d := d) (b := b) (m := m * 10) (e := e) j
    rw [show m * 10 ^ (j + 1) = m * 10 * 10 ^ j from by rw [Int.pow_succ, Int.mul_comm (10 ^ j) 10, Int.mul_assoc], h, rdP_ten, show e + (j : Int) + 1 = e + ((j + 1 : Nat) : Int) from by omega]
theorem fQ_ten {x y : Int} (hy : 0 < y) (e : Int) : fQ x y (e + 1) = fQ x y e / 10 := by
  have h1 := fD_pos hy e
  have h2 := fD_pos hy (e + 1)
  have key : ∀ c : Int, c ≤ fQ x y (e + 1) ↔ c ≤ fQ x y e / 10 := fun c => by
    rw [fQ, Int.le_ediv_iff_mul_le h2, fstepc, ← Int.le_ediv_iff_mul_le h1, Int.le_ediv_iff_mul_le (show (0 : Int) < 10 by omega)]
    rfl
  have k1 := (key _).1 (Int.le_refl _)
  have k2 := (key _).2 (Int.le_refl _)
  omega
theorem fQ_pow {x y : Int} (hy : 0 < y) (e : Int) : ∀ j : Nat, fQ x y (e + j) = fQ x y e / 10 ^ j
  | 0 => by simp
  | j + 1 => by
    rw [show e + ((j + 1 : Nat) : Int) = e + j + 1 from by omega, fQ_ten hy, fQ_pow hy e j, Int.pow_succ, Int.ediv_ediv_of_nonneg (Int.le_of_lt (p10 j))]
theorem dig_read {d : Kd} {b m e : Int} (hb : 0 < b ∧ b < d.I) (h : DigR d b (fX d b) (fY d b) m e) : rdQ d b m e := by
  have hbd := h.bd hb
  obtain ⟨t, f, ⟨h1, h2, h3, h4⟩, h5, j, h6, h7⟩ := h
  have hr := (pick_read h4).2.2.2
  rw [h6] at hr
  exact ⟨by omega, by omega, by omega, by rw [h7]; exact (rdP_pow j).1 hr⟩
/-- where a number of digits lies beside the value -/
theorem dig_at {d : Kd} {b x y t f m e : Int} {j : Nat} (hy : 0 < y) (h6 : pickM d b x y f = m * 10 ^ j) (h7 : e = f + j) : fQ x y e = m ∨ fQ x y e = m - 1 := by
  have hp := p10 j
  rw [h7, fQ_pow hy]
  by_cases hu : upp d b x y f
  · right
    have hq : fQ x y f = m * 10 ^ j - 1 := by
      unfold pickM at h6
      rw [if_pos hu] at h6
      omega
    rw [hq, show m * 10 ^ j - 1 = (10 ^ j - 1) + (m - 1) * 10 ^ j from by rw [Int.sub_mul]; omega, Int.add_mul_ediv_right _ _ (by omega), Int.ediv_eq_zero_of_lt (by omega) (by omega), Int.zero_add]
  · left
    have hq : fQ x y f = m * 10 ^ j := by
      unfold pickM at h6
      rw [if_neg hu] at h6
      omega
    rw [hq, Int.mul_ediv_cancel _ (by omega)]
theorem dig_fewer {d : Kd} {b m e : Int} (hb : 0 < b ∧ b < d.I) (h : DigR d b (fX d b) (fY d b) m e) (hm : 9 < m) : ¬ rdQ d b (m / 10) (e + 1) ∧ ¬ rdQ d b (m / 10 + 1) (e + 1) := by
  obtain ⟨t, f, ⟨h1, h2, h3, h4⟩, h5, j, h6, h7⟩ := h
  have hy := fY_pos d b
  have h8 := dig_at (t := t) hy h6 h7
  have h9 : fQ (fX d b) (fY d b) (e + 1) = m / 10 := by rw [fQ_ten hy]; omega
  have h10 : e + 1 ≤ t := h1.ge hy (by
    have : 1 ≤ fQ (fX d b) (fY d b) (e + 1) := by omega
    have := (Int.le_ediv_iff_mul_le (fD_pos hy (e + 1))).1 this
    rwa [Int.one_mul] at this)
  have h11 := h3 (e + 1) (by omega) h10
  unfold hit at h11
  rw [h9] at h11
  exact ⟨fun h => h11 (.inl h), fun h => h11 (.inr h)⟩
def apS (a b : Int) : Int := if a < b then b - a else a - b
theorem dig_near {d : Kd} {b m e : Int} (hb : 0 < b ∧ b < d.I) (h : DigR d b (fX d b) (fY d b) m e) {m' : Int} (hm' : m' = m + 1 ∨ m' = m - 1) (h0 : 0 < m') (hr : rdQ d b m' e) : ¬ apS (m' * fD (fY d b) e) (fN (fX d b) e) < apS (m * fD (fY d b) e) (fN (fX d b) e) := by
  have hrd := dig_read hb h
  have hmp := (h.bd hb).1
  have hfl := flt_of hb
  have hx0 : 0 ≤ fX d b := Int.le_of_lt hfl.hx
  obtain ⟨t, f, ⟨h1, h2, h3, h4⟩, h5, j, h6, h7⟩ := h
  have hy := fY_pos d b
  have h8 := dig_at (t := t) hy h6 h7
  have hD := fD_pos hy e
  have k0 := Int.emod_add_mul_ediv (fN (fX d b) e) (fD (fY d b) e)
  have k1 := Int.emod_nonneg (fN (fX d b) e) (show fD (fY d b) e ≠ 0 by omega)
  have k2 := Int.emod_lt_of_pos (fN (fX d b) e) hD
  have hqd : fQ (fX d b) (fY d b) e = fN (fX d b) e / fD (fY d b) e := rfl
  have hq0 := (fQ_bd hx0 hy h1 (t + 1 - e).toNat (e := e) (by omega)).1
  rw [← hqd] at k0
  have hhf : hfS (fX d b) (fY d b) e = cmpI (2 * (fN (fX d b) e % fD (fY d b) e)) (fD (fY d b) e) := rfl
  generalize fN (fX d b) e % fD (fY d b) e = r at *
  generalize hNd : fN (fX d b) e = N at *
  generalize hDd : fD (fY d b) e = D at *
  rcases Nat.eq_zero_or_pos j with hj | hj
  · subst hj
    have hef : e = f := by omega
    subst hef
    rw [Int.pow_zero, Int.mul_one] at h6
    unfold pickM at h6
    split at h6
    · rename_i hu
      -- the upper one
      generalize hqq : fQ (fX d b) (fY d b) e = q at *
      subst h6
      have e1 : (q + 1) * D = D * q + D := by rw [Int.add_mul, Int.one_mul, Int.mul_comm]
      rcases hm' with rfl | rfl
      · have e2 : (q + 1 + 1) * D = D * q + D + D := by rw [Int.add_mul, e1, Int.one_mul]
        rw [e1, e2]
        unfold apS
        (repeat' split) <;> omega
      · have e3 : q + 1 - 1 = q := by omega
        rw [e3] at hr ⊢
        have e2 : q * D = D * q := Int.mul_comm ..
        rw [e1, e2]
        unfold upp at hu
        rw [hqq] at hu
        rcases hu with hu | hu
        · exact absurd hr hu
        · have : 0 ≤ hfS (fX d b) (fY d b) e := by omega
          rw [hhf] at this
          have := cmpI_ge0.1 this
          unfold apS
          (repeat' split) <;> omega
    · rename_i hu
      -- the lower one
      generalize hqq : fQ (fX d b) (fY d b) e = q at *
      subst h6
      have e1 : q * D = D * q := Int.mul_comm ..
      rcases hm' with rfl | rfl
      · have e2 : (q + 1) * D = D * q + D := by rw [Int.add_mul, Int.one_mul, Int.mul_comm]
        rw [e1, e2]
        have h9 : ¬ 0 ≤ hfS (fX d b) (fY d b) e ∨ hfS (fX d b) (fY d b) e = 0 := by
          unfold upp at hu
          rw [hqq] at hu
          rcases Int.lt_trichotomy (hfS (fX d b) (fY d b) e) 0 with h | h | h
          · left; omega
          · right; exact h
          · exact absurd (.inr ⟨hr, .inl h⟩) hu
        rw [hhf] at h9
        have h10 : ¬ D < 2 * r := by
          unfold cmpI at h9
          intro h
          rw [if_neg (by omega), if_pos h] at h9
          omega
        unfold apS
        (repeat' split) <;> omega
      · have e2 : (q - 1) * D = D * q - D := by rw [Int.sub_mul, Int.one_mul, Int.mul_comm]
        rw [e1, e2]
        unfold apS
        (repeat' split) <;> omega
  · -- noughts have been taken off: the value is below 10^e
    have h9 : ¬ e ≤ t := fun h => by
      have := h3 e (by omega) h
      unfold hit at this
      rcases h8 with h8 | h8
      · exact this (.inl (by rw [h8]; exact hrd))
      · exact this (.inr (by rw [h8, show m - 1 + 1 = m from by omega]; exact hrd))
    have h10 := (fQ_bd hx0 hy h1 0 (e := e) (by omega)).2
    rw [Int.pow_zero] at h10
    have h11 : fQ (fX d b) (fY d b) e = 0 := by omega
    have h12 : m = 1 := by omega
    subst h12
    rw [h11, Int.mul_zero, Int.add_zero] at k0
    subst k0
    rcases hm' with rfl | rfl
    · rw [Int.one_mul, show ((1 : Int) + 1) * D = D + D from by omega]
      unfold apS
      (repeat' split) <;> omega
    · omega
/-- the digits of a float and of the next one are in order -/
theorem dig_order {d : Kd} {c m1 e1 m2 e2 : Int} (h : rdP d c m1 e1) (k : rdP d (c + 1) m2 e2) : m1 * 10 ^ (e1 - e2).toNat < m2 * 10 ^ (e2 - e1).toNat := by
  obtain ⟨_, h⟩ := h
  obtain ⟨k, _⟩ := k
  rw [show c + 1 - 1 = c from by omega] at k
  have hL := p2_ d.l
  have hA1 := p10 e1.toNat
  have hA2 := p10 e2.toNat
  have hD1 := p10 (-e1).toNat
  have hD2 := p10 (-e2).toNat
  generalize fv d.H c + fv d.H (c + 1) = S at *
  -- both over both
  have h1 : 2 * (m1 * 10 ^ e1.toNat * 2 ^ d.l) ≤ S * 10 ^ (-e1).toNat := by omega
  have k1 : S * 10 ^ (-e2).toNat ≤ 2 * (m2 * 10 ^ e2.toNat * 2 ^ d.l) := by omega
  have h2 := Int.mul_le_mul_of_nonneg_right h1 (Int.le_of_lt hD2)
  have k2 := Int.mul_le_mul_of_nonneg_right k1 (Int.le_of_lt hD1)
  have hs : 2 * (m1 * 10 ^ e1.toNat * 2 ^ d.l) < S * 10 ^ (-e1).toNat ∨ S * 10 ^ (-e2).toNat < 2 * (m2 * 10 ^ e2.toNat * 2 ^ d.l) := by omega
  have e3 : S * 10 ^ (-e1).toNat * 10 ^ (-e2).toNat = S * 10 ^ (-e2).toNat * 10 ^ (-e1).toNat := Int.mul_right_comm ..
  have h3 : 2 * (m1 * 10 ^ e1.toNat * 2 ^ d.l) * 10 ^ (-e2).toNat < 2 * (m2 * 10 ^ e2.toNat * 2 ^ d.l) * 10 ^ (-e1).toNat := by
    rcases hs with hs | hs
    · have := Int.mul_lt_mul_of_pos_right hs hD2
      omega
    · have := Int.mul_lt_mul_of_pos_right hs hD1
      omega
  have e4 : ∀ (m a b : Int), 2 * (m * a * 2 ^ d.l) * b = (m * (a * b)) * (2 * 2 ^ d.l) := fun m a b => by
    simp only [Int.mul_assoc, Int.mul_comm, Int.mul_left_comm]
  rw [e4, e4] at h3
  have h4 := Int.lt_of_mul_lt_mul_right h3 (by omega)
  obtain ⟨γ, hγ⟩ : ∃ γ : Nat, e1.toNat + (-e2).toNat = (e1 - e2).toNat + γ := ⟨e1.toNat + (-e2).toNat - (e1 - e2).toNat, by omega⟩
  have hγ2 : e2.toNat + (-e1).toNat = (e2 - e1).toNat + γ := by omega
  rw [← Int.pow_add, ← Int.pow_add, hγ, hγ2, Int.pow_add, Int.pow_add, ← Int.mul_assoc, ← Int.mul_assoc] at h4
  exact Int.lt_of_mul_lt_mul_right h4 (Int.le_of_lt (p10 γ))
theorem gap_small {d : Kd} {b x : Int} (hb : 0 ≤ b) (hv : fv d.H b ≤ x * 2 ^ d.l) (hx : x < d.H) (hx0 : 0 < x) : fv d.H (b + 1) - fv d.H b ≤ 2 ^ d.l := by
  obtain ⟨M, u, _, h1, h2, h3, e1, e2⟩ := fv_form d.hH0 hb
  rw [e1, e2, Int.add_mul, Int.one_mul]
  rcases h3 with rfl | h3
  · have := p2_ d.l
    rw [Int.pow_zero]
    omega
  · rcases Int.lt_or_le (2 ^ d.l) ((2 : Int) ^ u) with h4 | h4
    · exfalso
      have h5 : d.H * 2 ^ u ≤ M * 2 ^ u := Int.mul_le_mul_of_nonneg_right h3 (Int.le_of_lt (p2_ u))
      have h6 := Int.mul_lt_mul_of_pos_left h4 d.hH0
      have h7 : x * 2 ^ d.l ≤ d.H * 2 ^ d.l := Int.mul_le_mul_of_nonneg_right (Int.le_of_lt hx) (Int.le_of_lt (p2_ _))
      omega
    · omega
/-- a whole number has its own digits -/
theorem dig_whole {d : Kd} {b m e x : Int} (hb : 0 < b ∧ b < d.I) (h : DigR d b (fX d b) (fY d b) m e) (hv : fv d.H b = x * 2 ^ d.l) (hx0 : 0 < x) (hx : x < d.H) : 0 ≤ e ∧ m * 10 ^ e.toNat = x := by
  have hfl := flt_of hb
  obtain ⟨t, f, ⟨h1, h2, h3, h4⟩, h5, j, h6, h7⟩ := h
  have hy := fY_pos d b
  have hL := p2_ d.l
  have hXY : fX d b = x * fY d b := by
    have h := hfl.hv
    rw [hv, Int.mul_right_comm] at h
    exact (Int.eq_of_mul_eq_mul_right (by omega) h).symm
  have hN : fN (fX d b) 0 = x * fY d b := by unfold fN; rw [show (-(0 : Int)).toNat = 0 from rfl, Int.pow_zero, Int.mul_one, hXY]
  have hD : fD (fY d b) 0 = fY d b := by unfold fD; rw [show (0 : Int).toNat = 0 from rfl, Int.pow_zero, Int.mul_one]
  have hQ : fQ (fX d b) (fY d b) 0 = x := by rw [fQ, hN, hD, Int.mul_ediv_cancel _ (by omega)]
  have g1 := fv_lt d.hH0 (b := b) (by omega)
  have g0 := fv_lt d.hH0 (b := b - 1) (by omega)
  rw [show b - 1 + 1 = b from by omega] at g0
  have hP : rdP d b x 0 := by
    unfold rdP
    rw [show (-(0 : Int)).toNat = 0 from rfl, show (0 : Int).toNat = 0 from rfl, Int.pow_zero, Int.mul_one, Int.mul_one, Int.mul_one, ← hv]
    omega
  have hit0 : hit d b (fX d b) (fY d b) 0 := .inl (by rw [hQ]; exact ⟨by omega, by omega, by omega, hP⟩)
  have ht0 : 0 ≤ t := h1.ge hy (by
    rw [hN, hD]
    have : 1 * fY d b ≤ x * fY d b := Int.mul_le_mul_of_nonneg_right (by omega) (Int.le_of_lt hy)
    omega)
  have hf0 : 0 ≤ f := by
    rcases Int.lt_or_le f 0 with h | h
    · exact absurd hit0 (h3 0 h ht0)
    · exact h
  have hr := (pick_read h4).2.2.2
  unfold rdP at hr
  rw [show (-f).toNat = 0 from by omega, Int.pow_zero, Int.mul_one, Int.mul_one] at hr
  have hg1 := gap_small (b := b) (by omega) (by rw [hv]; exact Int.le_refl _) hx hx0
  have hg0 := gap_small (b := b - 1) (by omega) (by rw [← hv]; omega) hx hx0
  rw [show b - 1 + 1 = b from by omega] at hg0
  generalize hPd : pickM d b (fX d b) (fY d b) f * 10 ^ f.toNat = K at *
  have hK : K = x := by
    rcases Int.lt_trichotomy K x with h | h | h
    · exfalso
      have h8 : K * 2 ^ d.l ≤ (x - 1) * 2 ^ d.l := Int.mul_le_mul_of_nonneg_right (by omega) (Int.le_of_lt hL)
      rw [Int.sub_mul, Int.one_mul] at h8
      omega
    · exact h
    · exfalso
      have h8 : (x + 1) * 2 ^ d.l ≤ K * 2 ^ d.l := Int.mul_le_mul_of_nonneg_right (by omega) (Int.le_of_lt hL)
      rw [Int.add_mul, Int.one_mul] at h8
      omega
  refine ⟨by omega, ?_⟩
  rw [← hK, ← hPd, h6, show e.toNat = j + f.toNat from by omega, Int.pow_add, Int.mul_assoc]
/-- the float of a whole number -/
theorem whole_float {x : Int} (hx0 : 0 < x) (hx : x < 4503599627370496) : ∃ b, 0 < b ∧ b < Kd.f64.I ∧ fv Kd.f64.H b = x * 2 ^ Kd.f64.l ∧ JoinR 10 false x 0 (b, true, 0) := by
  have h1 := blen_bd hx0
  have h2 := Ma.blen_pos hx0
  have h3 : Ma.blen x ≤ (52 : Nat) := (Ma.blen_le_iff (by omega) 52).2 (by omega)
  obtain ⟨a, ha⟩ : ∃ a : Nat, Ma.blen x - 1 = a := ⟨(Ma.blen x - 1).toNat, by omega⟩
  rw [ha, Int.toNat_natCast] at h1
  obtain ⟨s, hs⟩ : ∃ s : Nat, s + a = 52 := ⟨52 - a, by omega⟩
  have hHv : Kd.f64.H = 4503599627370496 := rfl
  have hIv : Kd.f64.I = 9218868437227405312 := rfl
  have e52 : (2 : Int) ^ 52 = 4503599627370496 := by decide
  have e53 : (2 : Int) ^ 53 = 9007199254740992 := by decide
  have h4 : 4503599627370496 ≤ x * 2 ^ s := by
    have := Int.mul_le_mul_of_nonneg_right h1.1 (Int.le_of_lt (p2_ s))
    rw [← Int.pow_add, show a + s = 52 from by omega, e52] at this
    exact this
  have h5 : x * 2 ^ s < 9007199254740992 := by
    have := Int.mul_lt_mul_of_pos_right h1.2 (p2_ s)
    rw [← Int.pow_add, show a + 1 + s = 53 from by omega, e53] at this
    exact this
  have h6 := fv_of (H := Kd.f64.H) (x := x * 2 ^ s) Kd.f64.hH0 (1074 - s) (by omega) (by omega) (.inr (by omega))
  have h7 : (((1074 - s : Nat) : Int)) ≤ 1074 := by omega
  have h8 : 0 ≤ (((1074 - s : Nat) : Int)) := by omega
  have hb : 0 < x * 2 ^ s + ((1074 - s : Nat) : Int) * Kd.f64.H ∧ x * 2 ^ s + ((1074 - s : Nat) : Int) * Kd.f64.H < Kd.f64.I := by
    rw [hHv, hIv]
    omega
  have hv : fv Kd.f64.H (x * 2 ^ s + ((1074 - s : Nat) : Int) * Kd.f64.H) = x * 2 ^ Kd.f64.l := by
    rw [h6, Int.mul_assoc, ← Int.pow_add, show s + (1074 - s) = Kd.f64.l from by show s + (1074 - s) = 1074; omega]
  refine ⟨_, hb.1, hb.2, hv, ?_⟩
  have hR := JoinR.is (k := 10) (neg := false) (m := x) (e := 0) (d := .f64) (t := (x * 2 ^ s + ((1074 - s : Nat) : Int) * Kd.f64.H, true, 0)) rfl (by
    refine near_exact (p2 _) ⟨by omega, by omega⟩ ?_
    rw [hv]
    show x * 2 ^ Kd.f64.l * 2 ^ 0 = x * 2 ^ 0 * 2 ^ Kd.f64.l
    rw [Int.pow_zero, Int.mul_one, Int.mul_one])
  rw [sgR_ok rfl] at hR
  exact hR

theorem and_i1 {n : Int} (h : -9223372036854775808 ≤ n ∧ n ≤ 9223372036854775807) : bitw .and .i64 n 1 = n % 2 := by
  have e : (BitVec.ofInt IntKind.i64.bits n &&& BitVec.ofInt IntKind.i64.bits 1).toNat = (n % 18446744073709551616).toNat % 2 := by
    show (BitVec.ofInt 64 n &&& BitVec.ofInt 64 1).toNat = _
    rw [BitVec.toNat_and, BitVec.toNat_ofInt, BitVec.toNat_ofInt]
    exact Nat.and_two_pow_sub_one_eq_mod (n % 18446744073709551616).toNat 1
  show IntKind.i64.wrap _ = _
  rw [e, w_i64 (by omega)]
  omega
theorem kd_fit (n : Int) : ∃ d, kd (9 + n % 2) = some d := by
  rcases (show n % 2 = 0 ∨ n % 2 = 1 by omega) with h | h <;> rw [h]
  · exact ⟨.f32, rfl⟩
  · exact ⟨.f64, rfl⟩
theorem fit_bd {k a : Int} {d : Kd} (hk : kd k = some d) (ha : 0 ≤ a ∧ a ≤ 18446744073709551615) : 0 ≤ (if k = 9 then a % 4294967296 else a) ∧ (if k = 9 then a % 4294967296 else a) < 2 * d.S := by
  rcases kd_some hk with ⟨rfl, rfl⟩ | ⟨rfl, rfl⟩
  · show 0 ≤ a % 4294967296 ∧ a % 4294967296 < 2 * 2147483648; omega
  · show 0 ≤ a ∧ a < 2 * 9223372036854775808; omega


theorem DigE.sign {k c m e er : Int} {d : Kd} (hk : kd k = some d) (hc : 0 ≤ c ∧ c < d.S) (h : DigE k (c + d.S) m e er) : DigE k c m e er := by
  have hbd := d.bd
  have e1 : (c + d.S) % d.S = c := by rw [Int.add_emod_right]; exact Int.emod_eq_of_lt hc.1 hc.2
  have e2 : c % d.S = c := Int.emod_eq_of_lt hc.1 hc.2
  have e3 : cls d (c + d.S) = cls d c := by unfold cls; rw [e1, e2]
  have e4 : clsF k (c + d.S) = clsF k c := by unfold clsF; rw [ofk_ok hk (chk_some hk (by omega)), ofk_ok hk (chk_some hk (by omega)), e3]
  have e5 : ofE k (c + d.S) = ofE k c := by unfold ofE; rw [e4]
  refine ⟨h.1.trans e5, h.2.1, fun h0 => ?_⟩
  obtain ⟨d', hd', h1, h2, h3, h4⟩ := h.2.2 h0
  rw [hk] at hd'
  cases hd'
  rw [e1] at h2 h3 h4
  exact ⟨d, hk, by omega, by rw [e2]; exact h2, by rw [e2]; exact h3, by rw [e2]; exact h4⟩
theorem DigE.is {k b m e : Int} {d : Kd} (hk : kd k = some d) (h : DigE k b m e 0) : 0 < b % d.S ∧ b % d.S < d.I ∧ DigR d (b % d.S) (fX d (b % d.S)) (fY d (b % d.S)) m e := by
  obtain ⟨d', hd', h1, h2, h3, h4⟩ := h.2.2 rfl
  rw [hk] at hd'
  cases hd'
  exact ⟨h2, h3, h4⟩
theorem nx_is {k c : Int} {d : Kd} (hk : kd k = some d) (hc : 0 < c ∧ c < d.I) (h : (nxF k c).2 = 0) : (nxF k c).1 = c + 1 ∧ c + 1 < d.I := by
  have hbd := d.bd
  have e2 : c % d.S = c := Int.emod_eq_of_lt (by omega) (by omega)
  have e : nxF k c = nx d c := by unfold nxF; rw [ofk_ok hk (chk_some hk (by omega))]
  rw [e] at h ⊢
  unfold nx at h ⊢
  rw [e2] at h ⊢
  rw [if_neg (by omega), if_neg (by omega), if_neg (by omega)] at h ⊢
  split at h
  · exact absurd h (by decide)
  · rename_i h2
    rw [if_neg h2]
    exact ⟨rfl, by omega⟩

theorem shortWholeL (x : Int) (hx : 0 ≤ x ∧ x ≤ 18446744073709551615) (w : World) :
    CallsV P 3 [.int .u64 x] w fun r w' => r = .bool true ∧ Grow w w' [] := by
  refine enterW Try.func3 rfl Try.ntmps3 rfl ?_
  have hw0 := St.start w
  refine c_seq ?_
  refine c_region ?_
  refine l_assign rfl rfl rfl ?_
  refine l_nil ?_
  refine e_then ?_
  refine c_keep [0] (.cons rfl .nil) ?_
  refine c_seq ?_
  refine c_region ?_
  refine l_move rfl rfl rfl ?_
  refine l_rem rfl rfl rfl rfl (by omega) (r_pos (by omega)) ?_
  refine l_assign rfl rfl rfl ?_
  refine l_nil ?_
  refine e_then ?_
  refine c_keep [0] (.cons rfl .nil) ?_
  refine c_cutk (ι := Int) (fun (x1 : Int) (w' : World) => St w w.heap.size None' ([]) w' ∧ 0 < x1 ∧ x1 < 1000000000000000) (fun (x1 : Int) => [(0, .int .u64 x1)]) [] .nil ?_ ?_
  · skip
    refine c_seq ?_
    refine c_region ?_
    refine l_move rfl rfl rfl ?_
    refine l_eql rfl rfl rfl rfl ?_
    refine l_nil ?_
    refine e_then ?_
    refine c_keep [0, 13] (.cons rfl (.cons rfl .nil)) ?_
    first | refine c_cond rfl (fun hc0 => ?_) (fun hc0 => ?_) | refine c_condb rfl (fun hc0 => ?_) (fun hc0 => ?_)
    · skip
      refine c_region ?_
      refine l_assign rfl rfl rfl ?_
      refine l_nil ?_
      refine e_meetk (7) ?_ .nil ?_
      · exact ⟨hw0, by omega⟩
      · exact (.cons rfl (by first | rfl | (refine congrArg (Value.int _) ?_; omega)) .nil)
    · skip
      refine c_skip ?_
      refine e_meetk (x % 1000000000000000) ?_ .nil ?_
      · exact ⟨hw0, by omega⟩
      · exact (.cons rfl (by first | rfl | (refine congrArg (Value.int _) ?_; omega)) .nil)
  rintro x1 w1 ⟨hw1, hx1⟩
  show RunC P _ _ _ (_ :: _) _
  refine c_seq ?_
  refine c_region ?_
  refine l_move rfl rfl rfl ?_
  refine l_buildS rfl rfl pl27 ta27 (.one rfl rfl (by first | rfl | assumption) (.succ .zero) .nil) ?_
  refine l_call rfl rfl Try.func8 rfl rfl (.cons rfl (.cons rfl .nil)) (joinB 10 false x1 0 (by omega) (by omega) w1) ?_
  rintro _ w2 ⟨res, rfl, hJ, hG⟩
  have hw2 := hG _ _ _ _ hw1
  try clear hG hw1
  simp only [List.cons_append, List.nil_append] at hw2
  obtain ⟨b, hb1, hb2, hv, hJ2⟩ := whole_float hx1.1 (by omega)
  obtain rfl := hJ.unique hJ2
  have hIv : Kd.f64.I = 9218868437227405312 := rfl
  have hSv : Kd.f64.S = 9223372036854775808 := rfl
  have hbm : b % Kd.f64.S = b := Int.emod_eq_of_lt (by omega) (by omega)
  refine l_move rfl rfl rfl ?_
  refine l_extract rfl rfl rfl rfl ?_
  refine l_extract rfl rfl rfl rfl ?_
  refine l_extract rfl rfl rfl rfl ?_
  refine l_assign rfl rfl rfl ?_
  refine l_assign rfl rfl rfl ?_
  refine l_assign rfl rfl rfl ?_
  refine l_nil ?_
  refine e_then ?_
  refine c_keep [0, 3, 4, 5] (.cons rfl (.cons rfl (.cons rfl (.cons rfl .nil)))) ?_
  refine c_seq ?_
  refine c_region ?_
  refine l_move rfl rfl rfl ?_
  refine l_call rfl rfl Try.func9 rfl rfl (.cons rfl (.cons rfl .nil)) (DigitsF 10 b (by omega) w2) ?_
  rintro _ w3 ⟨m, e, er, rfl, hE, hG⟩
  have hw3 := hG _ _ _ _ hw2
  try clear hG hw2
  simp only [List.cons_append, List.nil_append] at hw3
  have her : ofE 10 b = 0 := ofE_is (d := .f64) rfl (by omega) (by rw [hbm]; exact ⟨hb1, hb2⟩)
  obtain rfl : er = 0 := hE.1.trans her
  have hbdE := hE.bd
  obtain ⟨_, _, hDig⟩ := hE.is (d := .f64) rfl
  rw [hbm] at hDig
  obtain ⟨he0, hme⟩ := dig_whole ⟨hb1, hb2⟩ hDig hv hx1.1 (by show x1 < 4503599627370496; omega)
  refine l_move rfl rfl rfl ?_
  refine l_extract rfl rfl rfl rfl ?_
  refine l_extract rfl rfl rfl rfl ?_
  refine l_extract rfl rfl rfl rfl ?_
  refine l_assign rfl rfl rfl ?_
  refine l_assign rfl rfl rfl ?_
  refine l_assign rfl rfl rfl ?_
  refine l_nil ?_
  refine e_then ?_
  refine c_keep [0, 4, 5, 6, 7, 8] (.cons rfl (.cons rfl (.cons rfl (.cons rfl (.cons rfl (.cons rfl .nil)))))) ?_
  refine c_seq ?_
  refine c_seq ?_
  refine c_region ?_
  refine l_move rfl rfl rfl ?_
  refine l_callp rfl rfl Try.func10 rfl rfl (.cons rfl .nil) (numL10 _ _) ?_
  refine l_neq rfl rfl rfl rfl ?_
  refine l_turn (s := 29) (v' := .bool false) rfl (by simp) ?_
  refine l_move rfl rfl rfl ?_
  refine l_move rfl rfl rfl ?_
  first | refine l_notd rfl rfl rfl ?_ | refine l_not rfl rfl rfl ?_
  refine l_turn (s := 32) (v' := .bool false) rfl (by rfl) ?_
  refine l_pick_f rfl rfl rfl rfl ?_
  refine l_move rfl rfl rfl ?_
  refine l_move rfl rfl rfl ?_
  refine l_callp rfl rfl Try.func10 rfl rfl (.cons rfl .nil) (numL10 _ _) ?_
  refine l_neq rfl rfl rfl rfl ?_
  refine l_turn (s := 37) (v' := .bool false) rfl (by simp) ?_
  refine l_pick_f rfl rfl rfl rfl ?_
  refine l_nil ?_
  refine e_then ?_
  refine c_keep [0, 6, 7, 38] (.cons rfl (.cons rfl (.cons rfl (.cons rfl .nil)))) ?_
  refine c_cond_f rfl rfl ?_
  refine c_skip ?_
  refine e_then ?_
  refine c_keep [0, 6, 7] (.cons rfl (.cons rfl (.cons rfl .nil))) ?_
  refine c_seq ?_
  refine c_seq ?_
  refine c_region ?_
  refine l_assign rfl rfl rfl ?_
  refine l_nil ?_
  refine e_then ?_
  refine c_block ?_
  refine c_loopk (ι := Nat × Int) (fun (z0 : Nat × Int) => match z0 with | ⟨i, z⟩ => (e - i).toNat) (fun (z0 : Nat × Int) (w' : World) => match z0 with | ⟨i, z⟩ => St w w.heap.size None' ([]) w' ∧ (i : Int) ≤ e ∧ z = m * 10 ^ i) (fun (z0 : Nat × Int) => match z0 with | ⟨i, z⟩ => [(6, .int .u64 z), (9, .int .i64 (i : Int))]) [0, 7] (0, m) ?_ (.cons rfl (.cons rfl .nil)) ?_ ?_
  · exact ⟨hw3, by omega, by simp⟩
  · exact (.cons rfl (by first | rfl | (refine congrArg (Value.int _) ?_; omega)) (.cons rfl (by first | rfl | (refine congrArg (Value.int _) ?_; omega)) .nil))
  rintro ⟨i, z⟩ w4 ⟨hw4, hi, hz⟩
  show RunC P _ _ _ (_ :: _) _
  refine c_seq ?_
  refine c_seq ?_
  refine c_region ?_
  refine l_move rfl rfl rfl ?_
  refine l_move rfl rfl rfl ?_
  refine l_lss rfl rfl rfl rfl ?_
  refine l_nil ?_
  refine e_then ?_
  refine c_keep [0, 6, 7, 9, 41] (.cons rfl (.cons rfl (.cons rfl (.cons rfl (.cons rfl .nil))))) ?_
  first | refine c_cond rfl (fun hc2 => ?_) (fun hc2 => ?_) | refine c_condb rfl (fun hc2 => ?_) (fun hc2 => ?_)
  · skip
    have hz3 : m * 10 ^ (i + 1) ≤ x1 := by
      rw [← hme]
      exact Int.mul_le_mul_of_nonneg_left (Ma.pow_mono (by omega) (by omega)) hbdE.1
    have hz4 : 10 * z = m * 10 ^ (i + 1) := by rw [hz, Int.pow_succ, ← Int.mul_assoc m, Int.mul_comm 10]
    have hz0 : 0 ≤ z := by rw [hz]; exact Int.mul_nonneg hbdE.1 (Int.le_of_lt (p10 i))
    refine c_skip ?_
    refine e_then ?_
    refine c_keep [0, 6, 7, 9] (.cons rfl (.cons rfl (.cons rfl (.cons rfl .nil)))) ?_
    refine c_seq ?_
    refine c_block ?_
    refine c_region ?_
    refine l_move rfl rfl rfl ?_
    refine l_mul rfl rfl rfl rfl (w_u64 (by omega)) ?_
    refine l_assign rfl rfl rfl ?_
    refine l_nil ?_
    refine e_blk ?_
    refine e_then ?_
    refine c_keep [0, 6, 7, 9] (.cons rfl (.cons rfl (.cons rfl (.cons rfl .nil)))) ?_
    refine c_region ?_
    refine l_move rfl rfl rfl ?_
    refine l_add rfl rfl rfl rfl (w_i64 (by omega)) ?_
    refine l_assign rfl rfl rfl ?_
    refine l_nil ?_
    refine e_againk (i := (i, z)) (i + 1, 10 * z) ?_ ?_ (.cons rfl (.cons rfl .nil)) ?_
    · first | omega | (simp; omega)
    · exact ⟨hw4, by omega, hz4⟩
    · exact (.cons rfl (by first | rfl | (refine congrArg (Value.int _) ?_; omega)) (.cons rfl (by first | rfl | (refine congrArg (Value.int _) ?_; omega)) .nil))
  · skip
    refine c_exit ?_
    refine e_then_exit ?_
    refine e_then_exit ?_
    refine e_blk_exit ?_
    refine e_then ?_
    refine c_keep [0, 6, 7] (.cons rfl (.cons rfl (.cons rfl .nil))) ?_
    refine c_seq ?_
    refine c_region ?_
    have hzx : z = x1 := by rw [hz, ← hme, show e.toNat = i by omega]
    refine l_move rfl rfl rfl ?_
    refine l_geq rfl rfl rfl rfl ?_
    refine l_turn (s := 47) (v' := .bool true) rfl (by rw [decide_eq_true (by omega)]) ?_
    refine l_move rfl rfl rfl ?_
    refine l_move rfl rfl rfl ?_
    refine l_move rfl rfl rfl ?_
    refine l_eql rfl rfl rfl rfl ?_
    refine l_turn (s := 51) (v' := .bool true) rfl (by rw [decide_eq_true hzx]) ?_
    refine l_pick_t rfl rfl rfl rfl ?_
    refine l_move rfl rfl rfl ?_
    refine l_call rfl rfl Try.func11 rfl rfl .nil (wakesL10 w4) ?_
    rintro _ w5 ⟨rfl, hG⟩
    have hw5 := hG _ _ _ _ hw4
    try clear hG hw4
    simp only [List.cons_append, List.nil_append] at hw5
    refine l_turn (s := 54) (v' := .bool true) rfl (by rfl) ?_
    refine l_pick_t rfl rfl rfl rfl ?_
    refine l_assign rfl rfl rfl ?_
    refine l_nil ?_
    refine e_then ?_
    refine c_keep [2] (.cons rfl .nil) ?_
    refine c_ret ?_
    refine e_done1 Try.results3 rfl ?_
    refine ⟨_, rfl, ?_⟩
    exact ⟨rfl, hw5.grows⟩

theorem apS_len {a b c : List Int} {x y : Int} (ha : R16 a x) (hb : R16 b y) (hc : R16 c (apS x y)) (hla : a.length ≤ 4096) (hlb : b.length ≤ 4096) : c.length ≤ 1099511627776 := by
  have h1 := ha.blen
  have h2 := hb.blen
  have hx := ha.nonneg (by omega)
  have hy := hb.nonneg (by omega)
  have h0 := hc.nonneg (by omega)
  have h3 : Ma.blen (apS x y) ≤ (65536 : Nat) := by
    unfold apS at h0 ⊢
    split
    · have := Ma.blen_mono (show 0 ≤ y - x by omega) (show y - x ≤ y by omega)
      omega
    · have := Ma.blen_mono (show 0 ≤ x - y by omega) (show x - y ≤ x by omega)
      omega
  have := hc.len h3
  omega

theorem shortOrderL (n b : Int) (hn : -9223372036854775808 ≤ n ∧ n ≤ 9223372036854775807) (hb : 0 ≤ b ∧ b ≤ 18446744073709551615) (w : World) :
    CallsV P 6 [.int .i64 n, .int .u64 b] w fun r w' => r = .bool true ∧ Grow w w' [] := by
  refine enterW Try.func6 rfl Try.ntmps6 rfl ?_
  have hw0 := St.start w
  obtain ⟨d, hk⟩ := kd_fit n
  have hbd := d.bd
  have hfa := fit_bd hk hb
  refine c_seq ?_
  refine c_region ?_
  refine l_assign rfl rfl rfl ?_
  refine l_nil ?_
  refine e_then ?_
  refine c_keep [0, 1] (.cons rfl (.cons rfl .nil)) ?_
  refine c_seq ?_
  refine c_region ?_
  refine l_move rfl rfl rfl ?_
  refine l_bits rfl rfl rfl rfl rfl (and_i1 hn) ?_
  refine l_add rfl rfl rfl rfl (w_i64 (by omega)) ?_
  refine l_assign rfl rfl rfl ?_
  refine l_nil ?_
  refine e_then ?_
  refine c_keep [1, 5] (.cons rfl (.cons rfl .nil)) ?_
  refine c_seq ?_
  refine c_region ?_
  refine l_move rfl rfl rfl ?_
  refine l_move rfl rfl rfl ?_
  refine l_callp rfl rfl Try.func16 rfl rfl (.cons rfl (.cons rfl .nil)) (fitL10 (9 + n % 2) b hb w) ?_
  refine l_assign rfl rfl rfl ?_
  refine l_nil ?_
  refine e_then ?_
  refine c_keep [1, 5] (.cons rfl (.cons rfl .nil)) ?_
  refine c_seq ?_
  refine c_region ?_
  obtain ⟨a, hae⟩ : ∃ x, x = (if 9 + n % 2 = 9 then b % 4294967296 else b) := ⟨_, rfl⟩
  refine l_turn (s := 1) (v' := .int .u64 a) rfl (by rw [hae]) ?_
  rw [← hae] at hfa
  have ha2 := hfa
  have hma := mod_S d ha2
  refine l_move rfl rfl rfl ?_
  refine l_callp rfl rfl Try.func21 rfl rfl (.cons rfl (.cons rfl .nil)) (inf3 (9 + n % 2) d hk true w) ?_
  refine l_move rfl rfl rfl ?_
  refine l_callp rfl rfl Try.func21 rfl rfl (.cons rfl (.cons rfl .nil)) (inf3 (9 + n % 2) d hk false w) ?_
  refine l_sub rfl rfl rfl rfl (show IntKind.u64.wrap (d.I + d.S - d.I) = d.S by rw [w_u64 (by omega)]; omega) ?_
  refine l_assign rfl rfl rfl ?_
  refine l_nil ?_
  refine e_then ?_
  refine c_keep [1, 5, 6] (.cons rfl (.cons rfl (.cons rfl .nil))) ?_
  refine c_seq ?_
  refine c_region ?_
  refine l_move rfl rfl rfl ?_
  refine l_move rfl rfl rfl ?_
  refine l_rem rfl rfl rfl rfl (by omega) (quo_tmod ha2.1) ?_
  refine l_assign rfl rfl rfl ?_
  refine l_nil ?_
  refine e_then ?_
  refine c_keep [1, 5, 6] (.cons rfl (.cons rfl (.cons rfl .nil))) ?_
  refine c_seq ?_
  refine c_region ?_
  have hm0 := Int.emod_nonneg a (show d.S ≠ 0 by omega)
  have hm1 := Int.emod_lt_of_pos a (show 0 < d.S by omega)
  refine l_move rfl rfl rfl ?_
  refine l_move rfl rfl rfl ?_
  refine l_call rfl rfl Try.func9 rfl rfl (.cons rfl (.cons rfl .nil)) (DigitsF (9 + n % 2) (a % d.S) (by omega) w) ?_
  rintro _ w1 ⟨m, e, er, rfl, hE, hG⟩
  have hw1 := hG _ _ _ _ hw0
  try clear hG hw0
  simp only [List.cons_append, List.nil_append] at hw1
  refine l_move rfl rfl rfl ?_
  refine l_extract rfl rfl rfl rfl ?_
  refine l_extract rfl rfl rfl rfl ?_
  refine l_extract rfl rfl rfl rfl ?_
  refine l_assign rfl rfl rfl ?_
  refine l_assign rfl rfl rfl ?_
  refine l_assign rfl rfl rfl ?_
  refine l_nil ?_
  refine e_then ?_
  refine c_keep [1, 5, 6, 7, 8, 9] (.cons rfl (.cons rfl (.cons rfl (.cons rfl (.cons rfl (.cons rfl .nil)))))) ?_
  refine c_seq ?_
  refine c_region ?_
  refine l_move rfl rfl rfl ?_
  refine l_move rfl rfl rfl ?_
  refine l_move rfl rfl rfl ?_
  refine l_add rfl rfl rfl rfl (w_u64 (by omega)) ?_
  refine l_call rfl rfl Try.func9 rfl rfl (.cons rfl (.cons rfl .nil)) (DigitsF (9 + n % 2) (a % d.S + d.S) (by omega) w1) ?_
  rintro _ w2 ⟨m2, e2, er2, rfl, hE2, hG⟩
  have hw2 := hG _ _ _ _ hw1
  try clear hG hw1
  simp only [List.cons_append, List.nil_append] at hw2
  obtain ⟨rfl, rfl, rfl⟩ := hE.unique (hE2.sign hk ⟨hm0, hm1⟩)
  have hbdE := hE.bd
  refine l_move rfl rfl rfl ?_
  refine l_extract rfl rfl rfl rfl ?_
  refine l_extract rfl rfl rfl rfl ?_
  refine l_extract rfl rfl rfl rfl ?_
  refine l_assign rfl rfl rfl ?_
  refine l_assign rfl rfl rfl ?_
  refine l_assign rfl rfl rfl ?_
  refine l_nil ?_
  refine e_then ?_
  refine c_keep [1, 5, 7, 8, 9, 10, 11, 12] (.cons rfl (.cons rfl (.cons rfl (.cons rfl (.cons rfl (.cons rfl (.cons rfl (.cons rfl .nil)))))))) ?_
  refine c_seq ?_
  refine c_seq ?_
  refine c_region ?_
  refine l_move rfl rfl rfl ?_
  refine l_move rfl rfl rfl ?_
  refine l_neq rfl rfl rfl rfl ?_
  refine l_turn (s := 50) (v' := .bool false) rfl (by simp) ?_
  refine l_move rfl rfl rfl ?_
  refine l_move rfl rfl rfl ?_
  refine l_move rfl rfl rfl ?_
  refine l_neq rfl rfl rfl rfl ?_
  refine l_turn (s := 54) (v' := .bool false) rfl (by simp) ?_
  refine l_pick_f rfl rfl rfl rfl ?_
  refine l_move rfl rfl rfl ?_
  refine l_move rfl rfl rfl ?_
  refine l_move rfl rfl rfl ?_
  refine l_neq rfl rfl rfl rfl ?_
  refine l_turn (s := 59) (v' := .bool false) rfl (by simp) ?_
  refine l_pick_f rfl rfl rfl rfl ?_
  refine l_nil ?_
  refine e_then ?_
  refine c_keep [1, 5, 7, 8, 9, 60] (.cons rfl (.cons rfl (.cons rfl (.cons rfl (.cons rfl (.cons rfl .nil)))))) ?_
  refine c_cond_f rfl rfl ?_
  refine c_skip ?_
  refine e_then ?_
  refine c_keep [1, 5, 7, 8, 9] (.cons rfl (.cons rfl (.cons rfl (.cons rfl (.cons rfl .nil))))) ?_
  refine c_seq ?_
  refine c_region ?_
  refine l_move rfl rfl rfl ?_
  refine l_move rfl rfl rfl ?_
  refine l_call rfl rfl Try.func22 rfl rfl (.cons rfl (.cons rfl .nil)) (nextB (9 + n % 2) (a % d.S) (by omega) w2) ?_
  rintro _ w3 ⟨rfl, hG⟩
  have hw3 := hG _ _ _ _ hw2
  try clear hG hw2
  simp only [List.cons_append, List.nil_append] at hw3
  refine l_move rfl rfl rfl ?_
  refine l_extract rfl rfl rfl rfl ?_
  refine l_extract rfl rfl rfl rfl ?_
  refine l_assign rfl rfl rfl ?_
  refine l_assign rfl rfl rfl ?_
  refine l_nil ?_
  refine e_then ?_
  refine c_keep [5, 7, 8, 9, 13, 14] (.cons rfl (.cons rfl (.cons rfl (.cons rfl (.cons rfl (.cons rfl .nil)))))) ?_
  refine c_seq ?_
  refine c_seq ?_
  refine c_region ?_
  refine l_move rfl rfl rfl ?_
  refine l_callp rfl rfl Try.func10 rfl rfl (.cons rfl .nil) (numL10 _ _) ?_
  refine l_neq rfl rfl rfl rfl ?_
  refine l_move rfl rfl rfl ?_
  apply l_or 3 [5, 7, 8, 13] rfl rfl (.cons rfl (.cons rfl (.cons rfl (.cons rfl (.cons rfl .nil))))) rfl rfl (fun _ => rfl) rfl rfl rfl
  · intro hg10_4
    refine l_move rfl rfl rfl ?_
    refine l_callp rfl rfl Try.func10 rfl rfl (.cons rfl .nil) (numL10 _ _) ?_
    refine l_neq rfl rfl rfl rfl ?_
    refine l_nil ?_
    exact e_stays rfl (.cons rfl (congrArg Value.bool (decide_eq_false hg10_4).symm) (.cons rfl rfl (.cons rfl rfl (.cons rfl rfl (.cons rfl rfl .nil)))))
  refine l_nil ?_
  refine e_then ?_
  refine c_keep [5, 7, 8, 13, 74] (.cons rfl (.cons rfl (.cons rfl (.cons rfl (.cons rfl .nil))))) ?_
  first | refine c_cond rfl (fun hc1 => ?_) (fun hc1 => ?_) | refine c_condb rfl (fun hc1 => ?_) (fun hc1 => ?_)
  · skip
    refine c_seq ?_
    refine c_region ?_
    refine l_call rfl rfl Try.func11 rfl rfl .nil (wakesL10 w3) ?_
    rintro _ w4 ⟨rfl, hG⟩
    have hw4 := hG _ _ _ _ hw3
    try clear hG hw3
    simp only [List.cons_append, List.nil_append] at hw4
    refine l_assign rfl rfl rfl ?_
    refine l_nil ?_
    refine e_then ?_
    refine c_keep [4] (.cons rfl .nil) ?_
    refine c_ret ?_
    refine e_then_ret ?_
    refine e_done1 Try.results6 rfl ?_
    refine ⟨_, rfl, ?_⟩
    exact ⟨rfl, hw4.grows⟩
  · skip
    refine c_skip ?_
    refine e_then ?_
    refine c_keep [5, 7, 8, 13] (.cons rfl (.cons rfl (.cons rfl (.cons rfl .nil)))) ?_
    refine c_seq ?_
    refine c_region ?_
    obtain rfl : er = 0 := by omega
    obtain ⟨hc0p, hc0i, hDig⟩ := hE.is hk
    rw [Int.emod_eq_of_lt hm0 hm1] at hc0p hc0i hDig
    obtain ⟨hnx, hnx2⟩ := nx_is hk ⟨hc0p, hc0i⟩ (by omega)
    have hmm : (a % d.S + 1) % d.S = a % d.S + 1 := Int.emod_eq_of_lt (by omega) (by omega)
    refine l_move rfl rfl rfl ?_
    refine l_turn (s := 13) (v' := .int .u64 (a % d.S + 1)) rfl (congrArg (Value.int .u64) hnx) ?_
    refine l_move rfl rfl rfl ?_
    refine l_call rfl rfl Try.func9 rfl rfl (.cons rfl (.cons rfl .nil)) (DigitsF (9 + n % 2) (a % d.S + 1) (by omega) w3) ?_
    rintro _ w5 ⟨m3, e3, er3, rfl, hE3, hG⟩
    have hw5 := hG _ _ _ _ hw3
    try clear hG hw3
    simp only [List.cons_append, List.nil_append] at hw5
    have her3 : ofE (9 + n % 2) (a % d.S + 1) = 0 := ofE_is hk (by omega) (by rw [hmm]; omega)
    obtain rfl : er3 = 0 := hE3.1.trans her3
    obtain ⟨hc3p, hc3i, hDig3⟩ := hE3.is hk
    rw [hmm] at hc3p hc3i hDig3
    have hbd3 := hE3.bd
    have hord := dig_order (dig_read ⟨hc0p, hc0i⟩ hDig).2.2.2 (dig_read ⟨hc3p, hc3i⟩ hDig3).2.2.2
    refine l_move rfl rfl rfl ?_
    refine l_extract rfl rfl rfl rfl ?_
    refine l_extract rfl rfl rfl rfl ?_
    refine l_extract rfl rfl rfl rfl ?_
    refine l_assign rfl rfl rfl ?_
    refine l_assign rfl rfl rfl ?_
    refine l_assign rfl rfl rfl ?_
    refine l_nil ?_
    refine e_then ?_
    refine c_keep [7, 8, 10, 11, 15] (.cons rfl (.cons rfl (.cons rfl (.cons rfl (.cons rfl .nil))))) ?_
    refine c_seq ?_
    refine c_seq ?_
    refine c_region ?_
    refine l_move rfl rfl rfl ?_
    refine l_callp rfl rfl Try.func10 rfl rfl (.cons rfl .nil) (numL10 _ _) ?_
    refine l_neq rfl rfl rfl rfl ?_
    refine l_turn (s := 85) (v' := .bool false) rfl (by simp) ?_
    refine l_nil ?_
    refine e_then ?_
    refine c_keep [7, 8, 10, 11, 85] (.cons rfl (.cons rfl (.cons rfl (.cons rfl (.cons rfl .nil))))) ?_
    refine c_cond_f rfl rfl ?_
    refine c_skip ?_
    refine e_then ?_
    refine c_keep [7, 8, 10, 11] (.cons rfl (.cons rfl (.cons rfl (.cons rfl .nil)))) ?_
    refine c_seq ?_
    refine c_region ?_
    refine l_move rfl rfl rfl ?_
    refine v_lit hw5 rfl rfl Try.underlying66 ti22 rfl (.cons rfl (by first | rfl | assumption) .nil) rfl rfl rfl (fun b15_1 w6 hw6 => ?_)
    try clear hw5
    refine l_call rfl rfl Try.func23 rfl rfl (.cons rfl .nil) (numR _ [m] (U.one (by omega)) (by simp) w6 (hw6.ibl mem0)) ?_
    rintro va w7 ⟨_, la, rfl, hRa, hG⟩
    have hw7 := hG _ _ _ _ hw6
    try clear hG hw6
    simp only [List.cons_append, List.nil_append] at hw7
    have hRa2 : R16 la (m) := by have := hRa; rw [show Ma.vb 18446744073709551616 [m] = m from nv_one _] at this; exact this
    have hl_la := R16.len_num (U.one (show 0 ≤ m ∧ m ≤ 18446744073709551615 by omega)) hRa
    simp only [List.length_cons, List.length_nil] at hl_la
    refine l_move rfl rfl rfl ?_
    refine v_lit hw7 rfl rfl Try.underlying66 ti22 rfl (.cons rfl (by first | rfl | assumption) .nil) rfl rfl rfl (fun b15_4 w8 hw8 => ?_)
    try clear hw7
    refine l_call rfl rfl Try.func23 rfl rfl (.cons rfl .nil) (numR _ [m3] (U.one (by omega)) (by simp) w8 (hw8.ibl mem0)) ?_
    rintro vc w9 ⟨_, lc, rfl, hRc, hG⟩
    have hw9 := hG _ _ _ _ hw8
    try clear hG hw8
    simp only [List.cons_append, List.nil_append] at hw9
    have hRc2 : R16 lc (m3) := by have := hRc; rw [show Ma.vb 18446744073709551616 [m3] = m3 from nv_one _] at this; exact this
    have hl_lc := R16.len_num (U.one (show 0 ≤ m3 ∧ m3 ≤ 18446744073709551615 by omega)) hRc
    simp only [List.length_cons, List.length_nil] at hl_lc
    refine l_assign rfl rfl rfl ?_
    refine l_assign rfl rfl rfl ?_
    refine l_nil ?_
    refine e_then ?_
    refine c_keep [8, 11, 16, 17] (.cons rfl (.cons rfl (.cons rfl (.cons rfl .nil)))) ?_
    refine c_seq ?_
    refine c_seq ?_
    refine c_region ?_
    refine l_move rfl rfl rfl ?_
    refine l_move rfl rfl rfl ?_
    refine l_gtr rfl rfl rfl rfl ?_
    refine l_nil ?_
    refine e_then ?_
    refine c_keep [8, 11, 16, 17, 94] (.cons rfl (.cons rfl (.cons rfl (.cons rfl (.cons rfl .nil))))) ?_
    first | refine c_cond rfl (fun hc3 => ?_) (fun hc3 => ?_) | refine c_condb rfl (fun hc3 => ?_) (fun hc3 => ?_)
    · skip
      refine c_region ?_
      refine l_move rfl rfl rfl ?_
      refine l_move rfl rfl rfl ?_
      refine l_move rfl rfl rfl ?_
      refine l_sub rfl rfl rfl rfl (w_i64 (by omega)) ?_
      refine l_call rfl rfl Try.func25 rfl rfl (.cons rfl .nil) (tenR (e - e3) (by omega) w9) ?_
      rintro vt w10 ⟨_, lt, rfl, hRt, hG⟩
      have hw10 := hG _ _ _ _ hw9
      try clear hG hw9
      simp only [List.cons_append, List.nil_append] at hw10
      have hb10 := blen_10 (e - e3).toNat
      have hllt := hRt.len hb10
      refine l_call rfl rfl Try.func24 rfl rfl (.cons rfl (.cons rfl .nil)) (prodR va vt la lt _ _ hRa2 hRt (by omega) (by omega) w10 (hw10.io mem3) (hw10.io mem0)) ?_
      rintro vp w11 ⟨_, lp, rfl, hRp, hG⟩
      have hw11 := hG _ _ _ _ hw10
      try clear hG hw10
      simp only [List.cons_append, List.nil_append] at hw11
      have hlp := hRa2.len_mul hRt hRp
      rw [show (e3 - e).toNat = 0 by omega, Int.pow_zero, Int.mul_one] at hord
      have hlt := cmpI_lt0.2 hord
      refine l_assign rfl rfl rfl ?_
      refine l_nil ?_
      refine e_then ?_
      refine c_keep [16, 17] (.cons rfl (.cons rfl .nil)) ?_
      refine c_seq ?_
      refine c_region ?_
      refine l_move rfl rfl rfl ?_
      refine l_move rfl rfl rfl ?_
      refine l_call rfl rfl Try.func26 rfl rfl (.cons rfl (.cons rfl .nil)) (cmpR _ _ _ _ _ _ hRp hRc2 (by omega) (by omega) w11 (hw11.io mem0) (hw11.io mem2)) ?_
      rintro _ w12 ⟨rfl, hG⟩
      have hw12 := hG _ _ _ _ hw11
      try clear hG hw11
      simp only [List.cons_append, List.nil_append] at hw12
      refine l_lss rfl rfl rfl rfl ?_
      refine l_turn (s := 110) (v' := .bool true) rfl (by rw [decide_eq_true hlt]) ?_
      refine l_move rfl rfl rfl ?_
      refine l_call rfl rfl Try.func11 rfl rfl .nil (wakesL10 w12) ?_
      rintro _ w13 ⟨rfl, hG⟩
      have hw13 := hG _ _ _ _ hw12
      try clear hG hw12
      simp only [List.cons_append, List.nil_append] at hw13
      refine l_turn (s := 112) (v' := .bool true) rfl (by rfl) ?_
      refine l_pick_t rfl rfl rfl rfl ?_
      refine l_assign rfl rfl rfl ?_
      refine l_nil ?_
      refine e_then ?_
      refine c_keep [4] (.cons rfl .nil) ?_
      refine c_ret ?_
      refine e_done1 Try.results6 rfl ?_
      refine ⟨_, rfl, ?_⟩
      have hw14 := St.del (.tail (.tail (.tail (.tail (.tail .head))))) hw13
      try clear hw13
      have hw15 := St.del (.tail (.tail (.tail (.tail .head)))) hw14
      try clear hw14
      have hw16 := St.del (.tail (.tail (.tail .head))) hw15
      try clear hw15
      have hw17 := St.del (.tail (.tail .head)) hw16
      try clear hw16
      have hw18 := St.del (.tail .head) hw17
      try clear hw17
      have hw19 := St.del .head hw18
      try clear hw18
      exact ⟨rfl, hw19.grows⟩
    · skip
      refine c_region ?_
      refine l_move rfl rfl rfl ?_
      refine l_move rfl rfl rfl ?_
      refine l_move rfl rfl rfl ?_
      refine l_sub rfl rfl rfl rfl (w_i64 (by omega)) ?_
      refine l_call rfl rfl Try.func25 rfl rfl (.cons rfl .nil) (tenR (e3 - e) (by omega) w9) ?_
      rintro vt w20 ⟨_, lt, rfl, hRt, hG⟩
      have hw20 := hG _ _ _ _ hw9
      try clear hG hw9
      simp only [List.cons_append, List.nil_append] at hw20
      have hb10 := blen_10 (e3 - e).toNat
      have hllt := hRt.len hb10
      refine l_call rfl rfl Try.func24 rfl rfl (.cons rfl (.cons rfl .nil)) (prodR vc vt lc lt _ _ hRc2 hRt (by omega) (by omega) w20 (hw20.io mem1) (hw20.io mem0)) ?_
      rintro vp w21 ⟨_, lp, rfl, hRp, hG⟩
      have hw21 := hG _ _ _ _ hw20
      try clear hG hw20
      simp only [List.cons_append, List.nil_append] at hw21
      have hlp := hRc2.len_mul hRt hRp
      rw [show (e - e3).toNat = 0 by omega, Int.pow_zero, Int.mul_one] at hord
      have hlt := cmpI_lt0.2 hord
      refine l_assign rfl rfl rfl ?_
      refine l_nil ?_
      refine e_then ?_
      refine c_keep [16, 17] (.cons rfl (.cons rfl .nil)) ?_
      refine c_seq ?_
      refine c_region ?_
      refine l_move rfl rfl rfl ?_
      refine l_move rfl rfl rfl ?_
      refine l_call rfl rfl Try.func26 rfl rfl (.cons rfl (.cons rfl .nil)) (cmpR _ _ _ _ _ _ hRa2 hRp (by omega) (by omega) w21 (hw21.io mem4) (hw21.io mem0)) ?_
      rintro _ w22 ⟨rfl, hG⟩
      have hw22 := hG _ _ _ _ hw21
      try clear hG hw21
      simp only [List.cons_append, List.nil_append] at hw22
      refine l_lss rfl rfl rfl rfl ?_
      refine l_turn (s := 110) (v' := .bool true) rfl (by rw [decide_eq_true hlt]) ?_
      refine l_move rfl rfl rfl ?_
      refine l_call rfl rfl Try.func11 rfl rfl .nil (wakesL10 w22) ?_
      rintro _ w23 ⟨rfl, hG⟩
      have hw23 := hG _ _ _ _ hw22
      try clear hG hw22
      simp only [List.cons_append, List.nil_append] at hw23
      refine l_turn (s := 112) (v' := .bool true) rfl (by rfl) ?_
      refine l_pick_t rfl rfl rfl rfl ?_
      refine l_assign rfl rfl rfl ?_
      refine l_nil ?_
      refine e_then ?_
      refine c_keep [4] (.cons rfl .nil) ?_
      refine c_ret ?_
      refine e_done1 Try.results6 rfl ?_
      refine ⟨_, rfl, ?_⟩
      have hw24 := St.del (.tail (.tail (.tail (.tail (.tail .head))))) hw23
      try clear hw23
      have hw25 := St.del (.tail (.tail (.tail (.tail .head)))) hw24
      try clear hw24
      have hw26 := St.del (.tail (.tail (.tail .head))) hw25
      try clear hw25
      have hw27 := St.del (.tail (.tail .head)) hw26
      try clear hw26
      have hw28 := St.del (.tail .head) hw27
      try clear hw27
      have hw29 := St.del .head hw28
      try clear hw28
      exact ⟨rfl, hw29.grows⟩
theorem apartL10 (va vb : Value) (la lb : List Int) (na nb : Int) (hRa : R16 la na) (hRb : R16 lb nb) (hLa : la.length ≤ 4096) (hLb : lb.length ≤ 4096) (w : World) (ha : IV w va (ints .i64 la)) (hb : IV w vb (ints .i64 lb)) :
    CallsV P 48 [va, vb] w fun r w' => ∃ v ls, r = v ∧ R16 ls (apS na nb) ∧ Grow w w' [As.ri 3 .i64 v ls] := by
  refine enterW Try.func48 rfl Try.ntmps48 rfl ?_
  have hw0 := St.start w
  refine c_seq ?_
  refine c_region ?_
  refine l_assign rfl rfl rfl ?_
  refine l_nil ?_
  refine e_then ?_
  refine c_keep [0, 1] (.cons rfl (.cons rfl .nil)) ?_
  refine c_seq ?_
  refine c_seq ?_
  refine c_region ?_
  refine l_move rfl rfl rfl ?_
  refine l_move rfl rfl rfl ?_
  refine l_call rfl rfl Try.func26 rfl rfl (.cons rfl (.cons rfl .nil)) (cmpR _ _ _ _ _ _ hRa hRb (by omega) (by omega) w (hw0.iarg ha) (hw0.iarg hb)) ?_
  rintro _ w1 ⟨rfl, hG⟩
  have hw1 := hG _ _ _ _ hw0
  try clear hG hw0
  simp only [List.cons_append, List.nil_append] at hw1
  refine l_lss rfl rfl rfl rfl ?_
  refine l_nil ?_
  refine e_then ?_
  refine c_keep [0, 1, 8] (.cons rfl (.cons rfl (.cons rfl .nil))) ?_
  first | refine c_cond rfl (fun hc0 => ?_) (fun hc0 => ?_) | refine c_condb rfl (fun hc0 => ?_) (fun hc0 => ?_)
  · skip
    refine c_seq ?_
    refine c_region ?_
    refine l_move rfl rfl rfl ?_
    refine l_move rfl rfl rfl ?_
    refine l_call rfl rfl Try.func68 rfl rfl (.cons rfl (.cons rfl .nil)) (lessR _ _ _ _ _ _ hRb hRa (by omega) (by omega) (Int.le_of_lt (cmpI_lt0.1 hc0)) w1 (hw1.iarg hb) (hw1.iarg ha)) ?_
    rintro vs w2 ⟨_, ls, rfl, hRs, hG⟩
    have hw2 := hG _ _ _ _ hw1
    try clear hG hw1
    simp only [List.cons_append, List.nil_append] at hw2
    refine l_assign rfl rfl rfl ?_
    refine l_nil ?_
    refine e_then ?_
    refine c_keep [4] (.cons rfl .nil) ?_
    refine c_ret ?_
    refine e_then_ret ?_
    refine e_done1 Try.results48 rfl ?_
    refine ⟨_, rfl, ?_⟩
    exact ⟨_, _, rfl, by unfold apS; rw [if_pos (cmpI_lt0.1 hc0)]; exact hRs, hw2.grows⟩
  · skip
    have hge : nb ≤ na := by
      rcases Int.lt_or_le na nb with h | h
      · exact absurd (cmpI_lt0.2 h) hc0
      · exact h
    refine c_skip ?_
    refine e_then ?_
    refine c_keep [0, 1] (.cons rfl (.cons rfl .nil)) ?_
    refine c_seq ?_
    refine c_region ?_
    refine l_move rfl rfl rfl ?_
    refine l_move rfl rfl rfl ?_
    refine l_call rfl rfl Try.func68 rfl rfl (.cons rfl (.cons rfl .nil)) (lessR _ _ _ _ _ _ hRa hRb (by omega) (by omega) hge w1 (hw1.iarg ha) (hw1.iarg hb)) ?_
    rintro vs w3 ⟨_, ls, rfl, hRs, hG⟩
    have hw3 := hG _ _ _ _ hw1
    try clear hG hw1
    simp only [List.cons_append, List.nil_append] at hw3
    refine l_assign rfl rfl rfl ?_
    refine l_nil ?_
    refine e_then ?_
    refine c_keep [4] (.cons rfl .nil) ?_
    refine c_ret ?_
    refine e_done1 Try.results48 rfl ?_
    refine ⟨_, rfl, ?_⟩
    exact ⟨_, _, rfl, by unfold apS; rw [if_neg (by omega)]; exact hRs, hw3.grows⟩
theorem closerL10 (m1 m2 e : Int) (hm1 : 0 ≤ m1 ∧ m1 ≤ 18446744073709551615) (hm2 : 0 ≤ m2 ∧ m2 ≤ 18446744073709551615) (he : -420 ≤ e ∧ e ≤ 420) (vx vy : Value) (lx ly : List Int) (x y : Int) (hRx : R16 lx x) (hRy : R16 ly y) (hbx : Ma.blen x ≤ (1100 : Nat)) (hby : Ma.blen y ≤ (1100 : Nat)) (hy0 : 0 < y) (w : World) (hvx : IV w vx (ints .i64 lx)) (hvy : IV w vy (ints .i64 ly)) :
    CallsV P 20 [.int .u64 m1, .int .u64 m2, .int .i64 e, vx, vy] w fun r w' => r = .bool (decide (apS (m1 * fD y e) (fN x e) < apS (m2 * fD y e) (fN x e))) ∧ Grow w w' [] := by
  refine enterW Try.func20 rfl Try.ntmps20 rfl ?_
  have hw0 := St.start w
  have hx0 := hRx.nonneg (by omega)
  have hlx := hRx.len hbx
  have hly := hRy.len hby
  refine c_seq ?_
  refine c_region ?_
  refine l_assign rfl rfl rfl ?_
  refine l_nil ?_
  refine e_then ?_
  refine c_keep [0, 1, 2, 3, 4] (.cons rfl (.cons rfl (.cons rfl (.cons rfl (.cons rfl .nil))))) ?_
  refine c_seq ?_
  refine c_region ?_
  refine l_move rfl rfl rfl ?_
  refine v_lit hw0 rfl rfl Try.underlying66 ti22 rfl (.cons rfl (by first | rfl | assumption) .nil) rfl rfl rfl (fun b1_1 w1 hw1 => ?_)
  try clear hw0
  refine l_call rfl rfl Try.func23 rfl rfl (.cons rfl .nil) (numR _ [m1] (U.one (by omega)) (by simp) w1 (hw1.ibl mem0)) ?_
  rintro va w2 ⟨_, la, rfl, hRa, hG⟩
  have hw2 := hG _ _ _ _ hw1
  try clear hG hw1
  simp only [List.cons_append, List.nil_append] at hw2
  have hRa2 : R16 la (m1) := by have := hRa; rw [show Ma.vb 18446744073709551616 [m1] = m1 from nv_one _] at this; exact this
  have hl_la := R16.len_num (U.one (show 0 ≤ m1 ∧ m1 ≤ 18446744073709551615 by omega)) hRa
  simp only [List.length_cons, List.length_nil] at hl_la
  refine l_move rfl rfl rfl ?_
  refine v_lit hw2 rfl rfl Try.underlying66 ti22 rfl (.cons rfl (by first | rfl | assumption) .nil) rfl rfl rfl (fun b1_4 w3 hw3 => ?_)
  try clear hw2
  refine l_call rfl rfl Try.func23 rfl rfl (.cons rfl .nil) (numR _ [m2] (U.one (by omega)) (by simp) w3 (hw3.ibl mem0)) ?_
  rintro vb w4 ⟨_, lb, rfl, hRb, hG⟩
  have hw4 := hG _ _ _ _ hw3
  try clear hG hw3
  simp only [List.cons_append, List.nil_append] at hw4
  have hRb2 : R16 lb (m2) := by have := hRb; rw [show Ma.vb 18446744073709551616 [m2] = m2 from nv_one _] at this; exact this
  have hl_lb := R16.len_num (U.one (show 0 ≤ m2 ∧ m2 ≤ 18446744073709551615 by omega)) hRb
  simp only [List.length_cons, List.length_nil] at hl_lb
  refine l_assign rfl rfl rfl ?_
  refine l_assign rfl rfl rfl ?_
  refine l_nil ?_
  refine e_then ?_
  refine c_keep [2, 3, 4, 11, 12] (.cons rfl (.cons rfl (.cons rfl (.cons rfl (.cons rfl .nil))))) ?_
  refine c_seq ?_
  refine c_seq ?_
  refine c_region ?_
  refine l_move rfl rfl rfl ?_
  refine l_geq rfl rfl rfl rfl ?_
  refine l_nil ?_
  refine e_then ?_
  refine c_keep [2, 3, 4, 11, 12, 20] (.cons rfl (.cons rfl (.cons rfl (.cons rfl (.cons rfl (.cons rfl .nil)))))) ?_
  first | refine c_cond rfl (fun hc0 => ?_) (fun hc0 => ?_) | refine c_condb rfl (fun hc0 => ?_) (fun hc0 => ?_)
  · skip
    refine c_region ?_
    refine l_move rfl rfl rfl ?_
    refine l_move rfl rfl rfl ?_
    refine l_call rfl rfl Try.func25 rfl rfl (.cons rfl .nil) (tenR (e) (by omega) w4) ?_
    rintro vt w5 ⟨_, lt, rfl, hRt, hG⟩
    have hw5 := hG _ _ _ _ hw4
    try clear hG hw4
    simp only [List.cons_append, List.nil_append] at hw5
    have hb10 := blen_10 e.toNat
    have hllt := hRt.len hb10
    refine l_call rfl rfl Try.func24 rfl rfl (.cons rfl (.cons rfl .nil)) (prodR va vt la lt _ _ hRa2 hRt (by omega) (by omega) w5 (hw5.io mem3) (hw5.io mem0)) ?_
    rintro vp w6 ⟨_, lp, rfl, hRp, hG⟩
    have hw6 := hG _ _ _ _ hw5
    try clear hG hw5
    simp only [List.cons_append, List.nil_append] at hw6
    have hllp := hRa2.len_mul hRt hRp
    refine l_move rfl rfl rfl ?_
    refine l_move rfl rfl rfl ?_
    refine l_call rfl rfl Try.func25 rfl rfl (.cons rfl .nil) (tenR (e) (by omega) w6) ?_
    rintro vu w7 ⟨_, lu, rfl, hRu, hG⟩
    have hw7 := hG _ _ _ _ hw6
    try clear hG hw6
    simp only [List.cons_append, List.nil_append] at hw7
    have hllu := hRu.len hb10
    refine l_call rfl rfl Try.func24 rfl rfl (.cons rfl (.cons rfl .nil)) (prodR vb vu lb lu _ _ hRb2 hRu (by omega) (by omega) w7 (hw7.io mem3) (hw7.io mem0)) ?_
    rintro vq w8 ⟨_, lq, rfl, hRq, hG⟩
    have hw8 := hG _ _ _ _ hw7
    try clear hG hw7
    simp only [List.cons_append, List.nil_append] at hw8
    have hllq := hRb2.len_mul hRu hRq
    refine l_assign rfl rfl rfl ?_
    refine l_assign rfl rfl rfl ?_
    refine l_nil ?_
    refine e_then ?_
    refine c_keep [3, 4, 11, 12] (.cons rfl (.cons rfl (.cons rfl (.cons rfl .nil)))) ?_
    refine c_seq ?_
    refine c_region ?_
    refine l_move rfl rfl rfl ?_
    refine l_move rfl rfl rfl ?_
    refine l_call rfl rfl Try.func24 rfl rfl (.cons rfl (.cons rfl .nil)) (prodR vp vy lp ly _ _ hRp hRy (by omega) (by omega) w8 (hw8.io mem2) (hw8.iarg hvy)) ?_
    rintro vr w9 ⟨_, lr, rfl, hRr, hG⟩
    have hw9 := hG _ _ _ _ hw8
    try clear hG hw8
    simp only [List.cons_append, List.nil_append] at hw9
    have hllr := by first | exact hRp.len_mul hRy hRr | exact hRa2.len_mul hRy hRr
    refine l_move rfl rfl rfl ?_
    refine l_call rfl rfl Try.func48 rfl rfl (.cons rfl (.cons rfl .nil)) (apartL10 vr vx lr lx _ _ hRr hRx (by omega) (by omega) w9 (hw9.io mem0) (hw9.iarg hvx)) ?_
    rintro vk w10 ⟨_, lk, rfl, hRk, hG⟩
    have hw10 := hG _ _ _ _ hw9
    try clear hG hw9
    simp only [List.cons_append, List.nil_append] at hw10
    refine l_move rfl rfl rfl ?_
    refine l_move rfl rfl rfl ?_
    refine l_call rfl rfl Try.func24 rfl rfl (.cons rfl (.cons rfl .nil)) (prodR vq vy lq ly _ _ hRq hRy (by omega) (by omega) w10 (hw10.io mem2) (hw10.iarg hvy)) ?_
    rintro vs w11 ⟨_, ls, rfl, hRs, hG⟩
    have hw11 := hG _ _ _ _ hw10
    try clear hG hw10
    simp only [List.cons_append, List.nil_append] at hw11
    have hlls := by first | exact hRq.len_mul hRy hRs | exact hRb2.len_mul hRy hRs
    refine l_move rfl rfl rfl ?_
    refine l_call rfl rfl Try.func48 rfl rfl (.cons rfl (.cons rfl .nil)) (apartL10 vs vx ls lx _ _ hRs hRx (by omega) (by omega) w11 (hw11.io mem0) (hw11.iarg hvx)) ?_
    rintro vl w12 ⟨_, ll, rfl, hRl, hG⟩
    have hw12 := hG _ _ _ _ hw11
    try clear hG hw11
    simp only [List.cons_append, List.nil_append] at hw12
    refine l_call rfl rfl Try.func26 rfl rfl (.cons rfl (.cons rfl .nil)) (cmpR _ _ _ _ _ _ hRk hRl (apS_len hRr hRx hRk (by omega) (by omega)) (apS_len hRs hRx hRl (by omega) (by omega)) w12 (hw12.io mem2) (hw12.io mem0)) ?_
    rintro _ w13 ⟨rfl, hG⟩
    have hw13 := hG _ _ _ _ hw12
    try clear hG hw12
    simp only [List.cons_append, List.nil_append] at hw13
    refine l_lss rfl rfl rfl rfl ?_
    refine l_assign rfl rfl rfl ?_
    refine l_nil ?_
    refine e_then ?_
    refine c_keep [10] (.cons rfl .nil) ?_
    refine c_ret ?_
    refine e_done1 Try.results20 rfl ?_
    refine ⟨_, rfl, ?_⟩
    have hw14 := St.del (.tail (.tail (.tail (.tail (.tail (.tail (.tail (.tail (.tail (.tail (.tail .head))))))))))) hw13
    try clear hw13
    have hw15 := St.del (.tail (.tail (.tail (.tail (.tail (.tail (.tail (.tail (.tail (.tail .head)))))))))) hw14
    try clear hw14
    have hw16 := St.del (.tail (.tail (.tail (.tail (.tail (.tail (.tail (.tail (.tail .head))))))))) hw15
    try clear hw15
    have hw17 := St.del (.tail (.tail (.tail (.tail (.tail (.tail (.tail (.tail .head)))))))) hw16
    try clear hw16
    have hw18 := St.del (.tail (.tail (.tail (.tail (.tail (.tail (.tail .head))))))) hw17
    try clear hw17
    have hw19 := St.del (.tail (.tail (.tail (.tail (.tail (.tail .head)))))) hw18
    try clear hw18
    have hw20 := St.del (.tail (.tail (.tail (.tail (.tail .head))))) hw19
    try clear hw19
    have hw21 := St.del (.tail (.tail (.tail (.tail .head)))) hw20
    try clear hw20
    have hw22 := St.del (.tail (.tail (.tail .head))) hw21
    try clear hw21
    have hw23 := St.del (.tail (.tail .head)) hw22
    try clear hw22
    have hw24 := St.del (.tail .head) hw23
    try clear hw23
    have hw25 := St.del .head hw24
    try clear hw24
    refine ⟨congrArg Value.bool (decide_eq_decide.2 ?_), hw25.grows⟩
    rw [cmpI_lt0]
    have e1 : ∀ z : Int, z * fD y e = z * 10 ^ e.toNat * y := fun z => by unfold fD; rw [Int.mul_comm y, Int.mul_assoc]
    have e2 : fN x e = x := by unfold fN; rw [show (-e).toNat = 0 by omega, Int.pow_zero, Int.mul_one]
    rw [e1, e1, e2]
  · skip
    refine c_region ?_
    refine l_move rfl rfl rfl ?_
    refine l_move rfl rfl rfl ?_
    refine l_neg rfl rfl rfl (w_i64 (by omega)) ?_
    refine l_call rfl rfl Try.func25 rfl rfl (.cons rfl .nil) (tenR (0 - e) (by omega) w4) ?_
    rintro vt w26 ⟨_, lt, rfl, hRt, hG⟩
    have hw26 := hG _ _ _ _ hw4
    try clear hG hw4
    simp only [List.cons_append, List.nil_append] at hw26
    have hb10 := blen_10 (0 - e).toNat
    have hllt := hRt.len hb10
    refine l_call rfl rfl Try.func24 rfl rfl (.cons rfl (.cons rfl .nil)) (prodR vx vt lx lt _ _ hRx hRt (by omega) (by omega) w26 (hw26.iarg hvx) (hw26.io mem0)) ?_
    rintro vz w27 ⟨_, lz, rfl, hRz, hG⟩
    have hw27 := hG _ _ _ _ hw26
    try clear hG hw26
    simp only [List.cons_append, List.nil_append] at hw27
    have hllz := hRx.len_mul hRt hRz
    refine l_assign rfl rfl rfl ?_
    refine l_nil ?_
    refine e_then ?_
    refine c_keep [3, 4, 11, 12] (.cons rfl (.cons rfl (.cons rfl (.cons rfl .nil)))) ?_
    refine c_seq ?_
    refine c_region ?_
    refine l_move rfl rfl rfl ?_
    refine l_move rfl rfl rfl ?_
    refine l_call rfl rfl Try.func24 rfl rfl (.cons rfl (.cons rfl .nil)) (prodR va vy la ly _ _ hRa2 hRy (by omega) (by omega) w27 (hw27.io mem4) (hw27.iarg hvy)) ?_
    rintro vr w28 ⟨_, lr, rfl, hRr, hG⟩
    have hw28 := hG _ _ _ _ hw27
    try clear hG hw27
    simp only [List.cons_append, List.nil_append] at hw28
    have hllr := by first | exact hRp.len_mul hRy hRr | exact hRa2.len_mul hRy hRr
    refine l_move rfl rfl rfl ?_
    refine l_call rfl rfl Try.func48 rfl rfl (.cons rfl (.cons rfl .nil)) (apartL10 vr vz lr lz _ _ hRr hRz (by omega) (by omega) w28 (hw28.io mem0) (hw28.io mem1)) ?_
    rintro vk w29 ⟨_, lk, rfl, hRk, hG⟩
    have hw29 := hG _ _ _ _ hw28
    try clear hG hw28
    simp only [List.cons_append, List.nil_append] at hw29
    refine l_move rfl rfl rfl ?_
    refine l_move rfl rfl rfl ?_
    refine l_call rfl rfl Try.func24 rfl rfl (.cons rfl (.cons rfl .nil)) (prodR vb vy lb ly _ _ hRb2 hRy (by omega) (by omega) w29 (hw29.io mem4) (hw29.iarg hvy)) ?_
    rintro vs w30 ⟨_, ls, rfl, hRs, hG⟩
    have hw30 := hG _ _ _ _ hw29
    try clear hG hw29
    simp only [List.cons_append, List.nil_append] at hw30
    have hlls := by first | exact hRq.len_mul hRy hRs | exact hRb2.len_mul hRy hRs
    refine l_move rfl rfl rfl ?_
    refine l_call rfl rfl Try.func48 rfl rfl (.cons rfl (.cons rfl .nil)) (apartL10 vs vz ls lz _ _ hRs hRz (by omega) (by omega) w30 (hw30.io mem0) (hw30.io mem3)) ?_
    rintro vl w31 ⟨_, ll, rfl, hRl, hG⟩
    have hw31 := hG _ _ _ _ hw30
    try clear hG hw30
    simp only [List.cons_append, List.nil_append] at hw31
    refine l_call rfl rfl Try.func26 rfl rfl (.cons rfl (.cons rfl .nil)) (cmpR _ _ _ _ _ _ hRk hRl (apS_len hRr hRz hRk (by omega) (by omega)) (apS_len hRs hRz hRl (by omega) (by omega)) w31 (hw31.io mem2) (hw31.io mem0)) ?_
    rintro _ w32 ⟨rfl, hG⟩
    have hw32 := hG _ _ _ _ hw31
    try clear hG hw31
    simp only [List.cons_append, List.nil_append] at hw32
    refine l_lss rfl rfl rfl rfl ?_
    refine l_assign rfl rfl rfl ?_
    refine l_nil ?_
    refine e_then ?_
    refine c_keep [10] (.cons rfl .nil) ?_
    refine c_ret ?_
    refine e_done1 Try.results20 rfl ?_
    refine ⟨_, rfl, ?_⟩
    have hw33 := St.del (.tail (.tail (.tail (.tail (.tail (.tail (.tail (.tail (.tail .head))))))))) hw32
    try clear hw32
    have hw34 := St.del (.tail (.tail (.tail (.tail (.tail (.tail (.tail (.tail .head)))))))) hw33
    try clear hw33
    have hw35 := St.del (.tail (.tail (.tail (.tail (.tail (.tail (.tail .head))))))) hw34
    try clear hw34
    have hw36 := St.del (.tail (.tail (.tail (.tail (.tail (.tail .head)))))) hw35
    try clear hw35
    have hw37 := St.del (.tail (.tail (.tail (.tail (.tail .head))))) hw36
    try clear hw36
    have hw38 := St.del (.tail (.tail (.tail (.tail .head)))) hw37
    try clear hw37
    have hw39 := St.del (.tail (.tail (.tail .head))) hw38
    try clear hw38
    have hw40 := St.del (.tail (.tail .head)) hw39
    try clear hw39
    have hw41 := St.del (.tail .head) hw40
    try clear hw40
    have hw42 := St.del .head hw41
    try clear hw41
    refine ⟨congrArg Value.bool (decide_eq_decide.2 ?_), hw42.grows⟩
    rw [cmpI_lt0]
    have e1 : fD y e = y := by unfold fD; rw [show e.toNat = 0 by omega, Int.pow_zero, Int.mul_one]
    have e2 : fN x e = x * 10 ^ (0 - e).toNat := by unfold fN; rw [show -e = 0 - e by omega]
    rw [e1, e2]
theorem shortFewestL (n b : Int) (hn : -9223372036854775808 ≤ n ∧ n ≤ 9223372036854775807) (hb : 0 ≤ b ∧ b ≤ 18446744073709551615) (w : World) :
    CallsV P 5 [.int .i64 n, .int .u64 b] w fun r w' => r = .bool true ∧ Grow w w' [] := by
  refine enterW Try.func5 rfl Try.ntmps5 rfl ?_
  have hw0 := St.start w
  obtain ⟨d, hk⟩ := kd_fit n
  have hbd := d.bd
  have hfa := fit_bd hk hb
  refine c_seq ?_
  refine c_region ?_
  refine l_assign rfl rfl rfl ?_
  refine l_nil ?_
  refine e_then ?_
  refine c_keep [0, 1] (.cons rfl (.cons rfl .nil)) ?_
  refine c_seq ?_
  refine c_region ?_
  refine l_move rfl rfl rfl ?_
  refine l_bits rfl rfl rfl rfl rfl (and_i1 hn) ?_
  refine l_add rfl rfl rfl rfl (w_i64 (by omega)) ?_
  refine l_assign rfl rfl rfl ?_
  refine l_nil ?_
  refine e_then ?_
  refine c_keep [1, 5] (.cons rfl (.cons rfl .nil)) ?_
  refine c_seq ?_
  refine c_region ?_
  refine l_move rfl rfl rfl ?_
  refine l_move rfl rfl rfl ?_
  refine l_callp rfl rfl Try.func16 rfl rfl (.cons rfl (.cons rfl .nil)) (fitL10 (9 + n % 2) b hb w) ?_
  refine l_assign rfl rfl rfl ?_
  refine l_nil ?_
  refine e_then ?_
  refine c_keep [1, 5] (.cons rfl (.cons rfl .nil)) ?_
  refine c_seq ?_
  refine c_region ?_
  obtain ⟨a, hae⟩ : ∃ x, x = (if 9 + n % 2 = 9 then b % 4294967296 else b) := ⟨_, rfl⟩
  refine l_turn (s := 1) (v' := .int .u64 a) rfl (by rw [hae]) ?_
  rw [← hae] at hfa
  have ha2 := hfa
  have hma := mod_S d ha2
  have hau : 0 ≤ a ∧ a ≤ 18446744073709551615 := by omega
  have hcl : clsF (9 + n % 2) a = (cls d a, 0) := ofk_ok hk (chk_some hk ha2.2)
  refine l_move rfl rfl rfl ?_
  refine l_move rfl rfl rfl ?_
  refine l_call rfl rfl Try.func9 rfl rfl (.cons rfl (.cons rfl .nil)) (DigitsF (9 + n % 2) a hau w) ?_
  rintro _ w1 ⟨m, e, er, rfl, hE, hG⟩
  have hw1 := hG _ _ _ _ hw0
  try clear hG hw0
  simp only [List.cons_append, List.nil_append] at hw1
  refine l_move rfl rfl rfl ?_
  refine l_extract rfl rfl rfl rfl ?_
  refine l_extract rfl rfl rfl rfl ?_
  refine l_extract rfl rfl rfl rfl ?_
  refine l_assign rfl rfl rfl ?_
  refine l_assign rfl rfl rfl ?_
  refine l_assign rfl rfl rfl ?_
  refine l_nil ?_
  refine e_then ?_
  refine c_keep [1, 5, 6, 7, 8] (.cons rfl (.cons rfl (.cons rfl (.cons rfl (.cons rfl .nil))))) ?_
  refine c_seq ?_
  refine c_region ?_
  refine l_move rfl rfl rfl ?_
  refine l_move rfl rfl rfl ?_
  refine l_call rfl rfl Try.func17 rfl rfl (.cons rfl (.cons rfl .nil)) (classB (9 + n % 2) a hau w1) ?_
  rintro _ w2 ⟨rfl, hG⟩
  have hw2 := hG _ _ _ _ hw1
  try clear hG hw1
  simp only [List.cons_append, List.nil_append] at hw2
  rw [hcl]
  refine l_move rfl rfl rfl ?_
  refine l_extract rfl rfl rfl rfl ?_
  refine l_extract rfl rfl rfl rfl ?_
  refine l_assign rfl rfl rfl ?_
  refine l_assign rfl rfl rfl ?_
  refine l_nil ?_
  refine e_then ?_
  refine c_keep [1, 5, 6, 7, 8, 9] (.cons rfl (.cons rfl (.cons rfl (.cons rfl (.cons rfl (.cons rfl .nil)))))) ?_
  refine c_seq ?_
  refine c_seq ?_
  refine c_region ?_
  refine l_move rfl rfl rfl ?_
  refine l_neq rfl rfl rfl rfl ?_
  refine l_move rfl rfl rfl ?_
  apply l_and 2 [1, 5, 6, 7, 8] rfl rfl (.cons rfl (.cons rfl (.cons rfl (.cons rfl (.cons rfl (.cons rfl .nil)))))) rfl rfl (fun _ => rfl) rfl rfl rfl
  · intro hg5_3
    refine l_move rfl rfl rfl ?_
    refine l_neq rfl rfl rfl rfl ?_
    refine l_nil ?_
    exact e_stays rfl (.cons rfl (congrArg Value.bool (decide_eq_true hg5_3).symm) (.cons rfl rfl (.cons rfl rfl (.cons rfl rfl (.cons rfl rfl (.cons rfl rfl .nil))))))
  refine l_nil ?_
  refine e_then ?_
  refine c_keep [1, 5, 6, 7, 8, 49] (.cons rfl (.cons rfl (.cons rfl (.cons rfl (.cons rfl (.cons rfl .nil)))))) ?_
  first | refine c_cond rfl (fun hc0 => ?_) (fun hc0 => ?_) | refine c_condb rfl (fun hc0 => ?_) (fun hc0 => ?_)
  · skip
    have her : ofE (9 + n % 2) a = 100 := ofE_none (by rw [hcl]) (by rw [hcl]; show ¬ (cls d a = 2 ∨ cls d a = 3); omega)
    obtain ⟨rfl, rfl⟩ := hE.2.1 (by have := hE.1; omega)
    obtain rfl : er = 100 := hE.1.trans her
    refine c_seq ?_
    refine c_region ?_
    refine l_move rfl rfl rfl ?_
    refine l_callp rfl rfl Try.func10 rfl rfl (.cons rfl .nil) (numL10 _ _) ?_
    refine l_eql rfl rfl rfl rfl ?_
    refine l_turn (s := 52) (v' := .bool true) rfl (by simp) ?_
    refine l_move rfl rfl rfl ?_
    refine l_move rfl rfl rfl ?_
    refine l_eql rfl rfl rfl rfl ?_
    refine l_turn (s := 55) (v' := .bool true) rfl (by simp) ?_
    refine l_pick_t rfl rfl rfl rfl ?_
    refine l_move rfl rfl rfl ?_
    refine l_move rfl rfl rfl ?_
    refine l_eql rfl rfl rfl rfl ?_
    refine l_turn (s := 59) (v' := .bool true) rfl (by simp) ?_
    refine l_pick_t rfl rfl rfl rfl ?_
    refine l_move rfl rfl rfl ?_
    refine l_call rfl rfl Try.func11 rfl rfl .nil (wakesL10 w2) ?_
    rintro _ w3 ⟨rfl, hG⟩
    have hw3 := hG _ _ _ _ hw2
    try clear hG hw2
    simp only [List.cons_append, List.nil_append] at hw3
    refine l_turn (s := 62) (v' := .bool true) rfl (by rfl) ?_
    refine l_pick_t rfl rfl rfl rfl ?_
    refine l_assign rfl rfl rfl ?_
    refine l_nil ?_
    refine e_then ?_
    refine c_keep [4] (.cons rfl .nil) ?_
    refine c_ret ?_
    refine e_then_ret ?_
    refine e_done1 Try.results5 rfl ?_
    refine ⟨_, rfl, ?_⟩
    exact ⟨rfl, hw3.grows⟩
  · skip
    have hc23 : cls d a = 2 ∨ cls d a = 3 := by omega
    have hfin := cls_23 ha2.1 hc23
    have her : ofE (9 + n % 2) a = 0 := ofE_is hk ha2.2 hfin
    obtain rfl : er = 0 := hE.1.trans her
    obtain ⟨hlo, hhi, hDig⟩ := hE.is hk
    have hrd := dig_read ⟨hlo, hhi⟩ hDig
    have hbdE := hDig.bd ⟨hlo, hhi⟩
    have hm10 : ¬ (m % 10 = 0) := by
      obtain ⟨_, _, _, h5, _⟩ := hDig
      exact h5
    have hfl := flt_of ⟨hlo, hhi⟩
    have hfx := hfl.bx
    have hfy := hfl.by'
    have hspl := spl_any hk ha2 hhi
    have hss := spl_size ⟨hlo, hhi⟩
    have hsp0 := splM_pos ⟨hlo, hhi⟩
    refine c_skip ?_
    refine e_then ?_
    refine c_keep [1, 5, 6, 7, 8] (.cons rfl (.cons rfl (.cons rfl (.cons rfl (.cons rfl .nil))))) ?_
    refine c_seq ?_
    refine c_region ?_
    refine l_move rfl rfl rfl ?_
    refine l_move rfl rfl rfl ?_
    refine l_move rfl rfl rfl ?_
    refine l_move rfl rfl rfl ?_
    refine l_call rfl rfl Try.func13 rfl rfl (.cons rfl (.cons rfl (.cons rfl (.cons rfl .nil)))) (ReadsF (9 + n % 2) a hau m e (by omega) (by omega) w2) ?_
    rintro _ w4 ⟨rfl, hG⟩
    have hw4 := hG _ _ _ _ hw2
    try clear hG hw2
    simp only [List.cons_append, List.nil_append] at hw4
    rw [rdsF_ok her hk, decide_eq_true hrd]
    refine l_move rfl rfl rfl ?_
    refine l_extract rfl rfl rfl rfl ?_
    refine l_extract rfl rfl rfl rfl ?_
    refine l_assign rfl rfl rfl ?_
    refine l_assign rfl rfl rfl ?_
    refine l_nil ?_
    refine e_then ?_
    refine c_keep [1, 5, 6, 7, 8, 11, 12] (.cons rfl (.cons rfl (.cons rfl (.cons rfl (.cons rfl (.cons rfl (.cons rfl .nil))))))) ?_
    refine c_seq ?_
    refine c_seq ?_
    refine c_region ?_
    refine l_move rfl rfl rfl ?_
    refine l_callp rfl rfl Try.func10 rfl rfl (.cons rfl .nil) (numL10 _ _) ?_
    refine l_neq rfl rfl rfl rfl ?_
    refine l_turn (s := 74) (v' := .bool false) rfl (by simp) ?_
    refine l_move rfl rfl rfl ?_
    refine l_move rfl rfl rfl ?_
    refine l_callp rfl rfl Try.func10 rfl rfl (.cons rfl .nil) (numL10 _ _) ?_
    refine l_neq rfl rfl rfl rfl ?_
    refine l_turn (s := 78) (v' := .bool false) rfl (by simp) ?_
    refine l_pick_f rfl rfl rfl rfl ?_
    refine l_move rfl rfl rfl ?_
    refine l_move rfl rfl rfl ?_
    first | refine l_notd rfl rfl rfl ?_ | refine l_not rfl rfl rfl ?_
    refine l_turn (s := 82) (v' := .bool false) rfl (by rfl) ?_
    refine l_pick_f rfl rfl rfl rfl ?_
    refine l_move rfl rfl rfl ?_
    refine l_move rfl rfl rfl ?_
    refine l_eql rfl rfl rfl rfl ?_
    refine l_turn (s := 86) (v' := .bool false) rfl (by rw [decide_eq_false (by omega)]) ?_
    refine l_pick_f rfl rfl rfl rfl ?_
    refine l_move rfl rfl rfl ?_
    refine l_move rfl rfl rfl ?_
    refine l_rem rfl rfl rfl rfl (by omega) (r_pos (by omega)) ?_
    refine l_eql rfl rfl rfl rfl ?_
    refine l_turn (s := 91) (v' := .bool false) rfl (by rw [decide_eq_false hm10]) ?_
    refine l_move rfl rfl rfl ?_
    refine l_spurn rfl rfl ?_
    refine l_spurn rfl rfl ?_
    refine l_pick_f rfl rfl rfl rfl ?_
    refine l_pick_f rfl rfl rfl rfl ?_
    refine l_nil ?_
    refine e_then ?_
    refine c_keep [1, 5, 6, 7, 96] (.cons rfl (.cons rfl (.cons rfl (.cons rfl (.cons rfl .nil))))) ?_
    refine c_cond_f rfl rfl ?_
    refine c_skip ?_
    refine e_then ?_
    refine c_keep [1, 5, 6, 7] (.cons rfl (.cons rfl (.cons rfl (.cons rfl .nil)))) ?_
    refine c_cutk (ι := Unit) (fun (u0 : Unit) (w' : World) => St w w.heap.size None' ([]) w' ∧ True) (fun (u0 : Unit) => []) [1, 5, 6, 7] (.cons rfl (.cons rfl (.cons rfl (.cons rfl .nil)))) ?_ ?_
    · skip
      refine c_seq ?_
      refine c_region ?_
      refine l_move rfl rfl rfl ?_
      refine l_gtr rfl rfl rfl rfl ?_
      refine l_nil ?_
      refine e_then ?_
      refine c_keep [1, 5, 6, 7, 98] (.cons rfl (.cons rfl (.cons rfl (.cons rfl (.cons rfl .nil))))) ?_
      first | refine c_cond rfl (fun hc2 => ?_) (fun hc2 => ?_) | refine c_condb rfl (fun hc2 => ?_) (fun hc2 => ?_)
      · skip
        obtain ⟨hno1, hno2⟩ := dig_fewer ⟨hlo, hhi⟩ hDig (by omega)
        refine c_seq ?_
        refine c_region ?_
        refine l_move rfl rfl rfl ?_
        refine l_move rfl rfl rfl ?_
        refine l_move rfl rfl rfl ?_
        refine l_quo rfl rfl rfl rfl (by omega) (q_u64 (by omega)) ?_
        refine l_move rfl rfl rfl ?_
        refine l_add rfl rfl rfl rfl (w_i64 (by omega)) ?_
        refine l_call rfl rfl Try.func13 rfl rfl (.cons rfl (.cons rfl (.cons rfl (.cons rfl .nil)))) (ReadsF (9 + n % 2) a hau (m / 10) (e + 1) (by omega) (by omega) w4) ?_
        rintro _ w5 ⟨rfl, hG⟩
        have hw5 := hG _ _ _ _ hw4
        try clear hG hw4
        simp only [List.cons_append, List.nil_append] at hw5
        rw [rdsF_ok her hk, decide_eq_false hno1]
        refine l_move rfl rfl rfl ?_
        refine l_extract rfl rfl rfl rfl ?_
        refine l_extract rfl rfl rfl rfl ?_
        refine l_assign rfl rfl rfl ?_
        refine l_assign rfl rfl rfl ?_
        refine l_nil ?_
        refine e_then ?_
        refine c_keep [1, 5, 6, 7, 13] (.cons rfl (.cons rfl (.cons rfl (.cons rfl (.cons rfl .nil))))) ?_
        refine c_seq ?_
        refine c_region ?_
        refine l_move rfl rfl rfl ?_
        refine l_move rfl rfl rfl ?_
        refine l_move rfl rfl rfl ?_
        refine l_quo rfl rfl rfl rfl (by omega) (q_u64 (by omega)) ?_
        refine l_add rfl rfl rfl rfl (w_u64 (by omega)) ?_
        refine l_move rfl rfl rfl ?_
        refine l_add rfl rfl rfl rfl (w_i64 (by omega)) ?_
        refine l_call rfl rfl Try.func13 rfl rfl (.cons rfl (.cons rfl (.cons rfl (.cons rfl .nil)))) (ReadsF (9 + n % 2) a hau (m / 10 + 1) (e + 1) (by omega) (by omega) w5) ?_
        rintro _ w6 ⟨rfl, hG⟩
        have hw6 := hG _ _ _ _ hw5
        try clear hG hw5
        simp only [List.cons_append, List.nil_append] at hw6
        rw [rdsF_ok her hk, decide_eq_false hno2]
        refine l_move rfl rfl rfl ?_
        refine l_extract rfl rfl rfl rfl ?_
        refine l_extract rfl rfl rfl rfl ?_
        refine l_assign rfl rfl rfl ?_
        refine l_assign rfl rfl rfl ?_
        refine l_nil ?_
        refine e_then ?_
        refine c_keep [1, 5, 6, 7, 13, 15] (.cons rfl (.cons rfl (.cons rfl (.cons rfl (.cons rfl (.cons rfl .nil)))))) ?_
        refine c_seq ?_
        refine c_region ?_
        refine l_move rfl rfl rfl ?_
        refine l_turn (s := 120) (v' := .bool false) rfl (by rfl) ?_
        refine l_move rfl rfl rfl ?_
        refine l_move rfl rfl rfl ?_
        refine l_turn (s := 122) (v' := .bool false) rfl (by rfl) ?_
        refine l_pick_f rfl rfl rfl rfl ?_
        refine l_nil ?_
        refine e_then ?_
        refine c_keep [1, 5, 6, 7, 123] (.cons rfl (.cons rfl (.cons rfl (.cons rfl (.cons rfl .nil))))) ?_
        refine c_cond_f rfl rfl ?_
        refine c_skip ?_
        refine e_meetk (()) ?_ (.cons rfl (.cons rfl (.cons rfl (.cons rfl .nil)))) ?_
        · exact ⟨hw6, trivial⟩
        · exact .nil
      · skip
        refine c_skip ?_
        refine e_meetk (()) ?_ (.cons rfl (.cons rfl (.cons rfl (.cons rfl .nil)))) ?_
        · exact ⟨hw4, trivial⟩
        · exact .nil
    rintro u0 w7 ⟨hw7, -⟩
    refine c_seq ?_
    refine c_region ?_
    refine l_move rfl rfl rfl ?_
    refine l_move rfl rfl rfl ?_
    refine l_call rfl rfl Try.func18 rfl rfl (.cons rfl (.cons rfl .nil)) (splitB (9 + n % 2) a hau w7) ?_
    rintro _ w8 ⟨rfl, hG⟩
    have hw8 := hG _ _ _ _ hw7
    try clear hG hw7
    simp only [List.cons_append, List.nil_append] at hw8
    rw [hspl]
    refine l_move rfl rfl rfl ?_
    refine l_extract rfl rfl rfl rfl ?_
    refine l_extract rfl rfl rfl rfl ?_
    refine l_alloc hw8 ta27 rfl rfl (fun b15_6 w9 hw9 => ?_)
    try clear hw8
    refine l_store_blks hw9 .head (.zero (.zero (.zero .nil))) rfl tz27 rfl rfl (by first | (simp [Value.oneCell']; done) | (intro u hu; simp only [List.mem_cons, List.not_mem_nil, or_false] at hu; rcases hu with rfl | rfl | rfl <;> first | rfl | assumption)) (fun w10 hw10 => ?_)
    try clear hw9
    refine l_assign rfl rfl rfl ?_
    refine l_nil ?_
    refine e_then ?_
    refine c_keep [1, 5, 6, 7, 17] (.cons rfl (.cons rfl (.cons rfl (.cons rfl (.cons rfl .nil))))) ?_
    refine c_seq ?_
    refine c_region ?_
    refine l_load_agg hw10 mem0 rfl rfl Try.underlying27 rfl tz27 rfl (.take (.take (.take .nil))) ?_
    refine l_call rfl rfl Try.func19 rfl rfl (.cons rfl .nil) (frac10 (decide (d.S ≤ a)) (splM d (a % d.S)) (splE d (a % d.S)) (by omega) (by omega) w10) ?_
    rintro _ w11 ⟨vx, lx, vy, ly, rfl, hRx, hRy, hG⟩
    have hw11 := hG _ _ _ _ hw10
    try clear hG hw10
    simp only [List.cons_append, List.nil_append] at hw11
    have hRx : R16 lx (fX d (a % d.S)) := hRx
    have hRy : R16 ly (fY d (a % d.S)) := hRy
    refine l_move rfl rfl rfl ?_
    refine l_extract rfl rfl rfl rfl ?_
    refine l_extract rfl rfl rfl rfl ?_
    refine l_assign rfl rfl rfl ?_
    refine l_assign rfl rfl rfl ?_
    refine l_nil ?_
    refine e_then ?_
    refine c_keep [1, 5, 6, 7, 19, 20] (.cons rfl (.cons rfl (.cons rfl (.cons rfl (.cons rfl (.cons rfl .nil)))))) ?_
    refine c_seq ?_
    refine c_seq ?_
    refine c_region ?_
    have hw12 := St.del (.tail (.tail .head)) hw11
    try clear hw11
    refine l_assign rfl rfl rfl ?_
    refine l_nil ?_
    refine e_then ?_
    refine c_block ?_
    refine c_loopk (ι := Int) (fun (i : Int) => (2 - i).toNat) (fun (i : Int) (w' : World) => St w w.heap.size None' ([As.ri 3 .i64 vy ly, As.ri 3 .i64 vx lx]) w' ∧ 0 ≤ i ∧ i ≤ 2) (fun (i : Int) => [(21, .int .i64 i)]) [1, 5, 6, 7, 19, 20] (0) ?_ (.cons rfl (.cons rfl (.cons rfl (.cons rfl (.cons rfl (.cons rfl .nil)))))) ?_ ?_
    · exact ⟨hw12, by omega, by omega⟩
    · exact (.cons rfl (by first | rfl | (refine congrArg (Value.int _) ?_; omega)) .nil)
    rintro i w13 ⟨hw13, hi0, hi2⟩
    show RunC P _ _ _ (_ :: _) _
    refine c_seq ?_
    refine c_seq ?_
    refine c_region ?_
    refine l_move rfl rfl rfl ?_
    refine l_lss rfl rfl rfl rfl ?_
    refine l_nil ?_
    refine e_then ?_
    refine c_keep [1, 5, 6, 7, 19, 20, 21, 136] (.cons rfl (.cons rfl (.cons rfl (.cons rfl (.cons rfl (.cons rfl (.cons rfl (.cons rfl .nil)))))))) ?_
    first | refine c_cond rfl (fun hc4 => ?_) (fun hc4 => ?_) | refine c_condb rfl (fun hc4 => ?_) (fun hc4 => ?_)
    · skip
      refine c_skip ?_
      refine e_then ?_
      refine c_keep [1, 5, 6, 7, 19, 20, 21] (.cons rfl (.cons rfl (.cons rfl (.cons rfl (.cons rfl (.cons rfl (.cons rfl .nil))))))) ?_
      refine c_seq ?_
      refine c_block ?_
      refine c_seq ?_
      refine c_region ?_
      refine l_move rfl rfl rfl ?_
      refine l_add rfl rfl rfl rfl (w_u64 (by omega)) ?_
      refine l_assign rfl rfl rfl ?_
      refine l_nil ?_
      refine e_then ?_
      refine c_keep [1, 5, 6, 7, 19, 20, 21, 22] (.cons rfl (.cons rfl (.cons rfl (.cons rfl (.cons rfl (.cons rfl (.cons rfl (.cons rfl .nil)))))))) ?_
      refine c_cutk (ι := Int) (fun (m' : Int) (w' : World) => St w w.heap.size None' ([As.ri 3 .i64 vy ly, As.ri 3 .i64 vx lx]) w' ∧ (m' = m + 1 ∨ m' = m - 1)) (fun (m' : Int) => [(22, .int .u64 m')]) [1, 5, 6, 7, 19, 20, 21] (.cons rfl (.cons rfl (.cons rfl (.cons rfl (.cons rfl (.cons rfl (.cons rfl .nil))))))) ?_ ?_
      · skip
        refine c_seq ?_
        refine c_region ?_
        refine l_move rfl rfl rfl ?_
        refine l_eql rfl rfl rfl rfl ?_
        refine l_nil ?_
        refine e_then ?_
        refine c_keep [1, 5, 6, 7, 19, 20, 21, 22, 142] (.cons rfl (.cons rfl (.cons rfl (.cons rfl (.cons rfl (.cons rfl (.cons rfl (.cons rfl (.cons rfl .nil))))))))) ?_
        first | refine c_cond rfl (fun hc5 => ?_) (fun hc5 => ?_) | refine c_condb rfl (fun hc5 => ?_) (fun hc5 => ?_)
        · skip
          refine c_region ?_
          refine l_move rfl rfl rfl ?_
          refine l_sub rfl rfl rfl rfl (w_u64 (by omega)) ?_
          refine l_assign rfl rfl rfl ?_
          refine l_nil ?_
          refine e_meetk (m - 1) ?_ (.cons rfl (.cons rfl (.cons rfl (.cons rfl (.cons rfl (.cons rfl (.cons rfl .nil))))))) ?_
          · exact ⟨hw13, .inr rfl⟩
          · exact (.cons rfl (by first | rfl | (refine congrArg (Value.int _) ?_; omega)) .nil)
        · skip
          refine c_skip ?_
          refine e_meetk (m + 1) ?_ (.cons rfl (.cons rfl (.cons rfl (.cons rfl (.cons rfl (.cons rfl (.cons rfl .nil))))))) ?_
          · exact ⟨hw13, .inl rfl⟩
          · exact (.cons rfl (by first | rfl | (refine congrArg (Value.int _) ?_; omega)) .nil)
      rintro m' w14 ⟨hw14, hm'⟩
      show RunC P _ _ _ (_ :: _) _
      refine c_seq ?_
      refine c_region ?_
      have hmm' : m' = m + 1 ∨ m' = m - 1 := hm'
      refine l_move rfl rfl rfl ?_
      refine l_move rfl rfl rfl ?_
      refine l_move rfl rfl rfl ?_
      refine l_move rfl rfl rfl ?_
      refine l_call rfl rfl Try.func13 rfl rfl (.cons rfl (.cons rfl (.cons rfl (.cons rfl .nil)))) (ReadsF (9 + n % 2) a hau m' e (by omega) (by omega) w14) ?_
      rintro _ w15 ⟨rfl, hG⟩
      have hw15 := hG _ _ _ _ hw14
      try clear hG hw14
      simp only [List.cons_append, List.nil_append] at hw15
      rw [rdsF_ok her hk]
      refine l_move rfl rfl rfl ?_
      refine l_extract rfl rfl rfl rfl ?_
      refine l_extract rfl rfl rfl rfl ?_
      refine l_assign rfl rfl rfl ?_
      refine l_assign rfl rfl rfl ?_
      refine l_nil ?_
      refine e_then ?_
      refine c_keep [1, 5, 6, 7, 19, 20, 21, 22, 23] (.cons rfl (.cons rfl (.cons rfl (.cons rfl (.cons rfl (.cons rfl (.cons rfl (.cons rfl (.cons rfl .nil))))))))) ?_
      refine c_seq ?_
      refine c_region ?_
      refine l_move rfl rfl rfl ?_
      refine l_move rfl rfl rfl ?_
      apply l_and 2 [1, 5, 6, 7, 19, 20, 21, 22] rfl rfl (.cons rfl (.cons rfl (.cons rfl (.cons rfl (.cons rfl (.cons rfl (.cons rfl (.cons rfl (.cons rfl .nil))))))))) rfl rfl (fun _ => rfl) rfl rfl rfl
      · intro hg24_2
        refine l_move rfl rfl rfl ?_
        refine l_gtr rfl rfl rfl rfl ?_
        refine l_nil ?_
        exact e_stays rfl (.cons rfl (congrArg Value.bool (decide_eq_true hg24_2).symm) (.cons rfl rfl (.cons rfl rfl (.cons rfl rfl (.cons rfl rfl (.cons rfl rfl (.cons rfl rfl (.cons rfl rfl (.cons rfl rfl .nil)))))))))
      refine l_move rfl rfl rfl ?_
      apply l_and 3 [1, 5, 6, 7, 19, 20, 21, 22] rfl rfl (.cons rfl (.cons rfl (.cons rfl (.cons rfl (.cons rfl (.cons rfl (.cons rfl (.cons rfl (.cons rfl .nil))))))))) rfl rfl (fun _ => rfl) rfl rfl rfl
      · intro hg24_6
        refine l_move rfl rfl rfl ?_
        refine l_rem rfl rfl rfl rfl (by omega) (r_pos (by omega)) ?_
        refine l_neq rfl rfl rfl rfl ?_
        refine l_nil ?_
        exact e_stays rfl (.cons rfl (congrArg Value.bool (decide_eq_true hg24_6).symm) (.cons rfl rfl (.cons rfl rfl (.cons rfl rfl (.cons rfl rfl (.cons rfl rfl (.cons rfl rfl (.cons rfl rfl (.cons rfl rfl .nil)))))))))
      refine l_move rfl rfl rfl ?_
      apply l_andS hw15 6 [1, 5, 6, 7, 19, 20, 21] rfl rfl (.cons rfl (.cons rfl (.cons rfl (.cons rfl (.cons rfl (.cons rfl (.cons rfl (.cons rfl .nil)))))))) rfl rfl (fun _ => rfl) rfl rfl rfl
      · intro hg24_11
        refine l_move rfl rfl rfl ?_
        refine l_move rfl rfl rfl ?_
        refine l_move rfl rfl rfl ?_
        refine l_move rfl rfl rfl ?_
        refine l_move rfl rfl rfl ?_
        refine l_call rfl rfl Try.func20 rfl rfl (.cons rfl (.cons rfl (.cons rfl (.cons rfl (.cons rfl .nil))))) (closerL10 (m') m e (by omega) (by omega) (by omega) vx vy lx ly _ _ hRx hRy (by omega) (by omega) (fY_pos d (a % d.S)) w15 (hw15.io mem1) (hw15.io mem0)) ?_
        rintro _ w16 ⟨rfl, hG⟩
        have hw16 := hG _ _ _ _ hw15
        try clear hG hw15
        simp only [List.cons_append, List.nil_append] at hw16
        refine l_nil ?_
        exact e_staysS hw16 rfl (.cons rfl (congrArg Value.bool (decide_eq_true hg24_11).symm) (.cons rfl rfl (.cons rfl rfl (.cons rfl rfl (.cons rfl rfl (.cons rfl rfl (.cons rfl rfl (.cons rfl rfl .nil))))))))
      intro w17 hw17
      try clear hw15
      refine l_nil ?_
      refine e_then ?_
      refine c_keep [1, 5, 6, 7, 19, 20, 21, 170] (.cons rfl (.cons rfl (.cons rfl (.cons rfl (.cons rfl (.cons rfl (.cons rfl (.cons rfl .nil)))))))) ?_
      first | refine c_cond rfl (fun hc6 => ?_) (fun hc6 => ?_) | refine c_condb rfl (fun hc6 => ?_) (fun hc6 => ?_)
      · skip
        exact absurd hc6.2 (dig_near ⟨hlo, hhi⟩ hDig hmm' hc6.1.1.2 hc6.1.1.1)
      · skip
        refine c_skip ?_
        refine e_blk ?_
        refine e_then ?_
        refine c_keep [1, 5, 6, 7, 19, 20, 21] (.cons rfl (.cons rfl (.cons rfl (.cons rfl (.cons rfl (.cons rfl (.cons rfl .nil))))))) ?_
        refine c_region ?_
        refine l_move rfl rfl rfl ?_
        refine l_add rfl rfl rfl rfl (w_i64 (by omega)) ?_
        refine l_assign rfl rfl rfl ?_
        refine l_nil ?_
        refine e_againk (i := (i)) (i + 1) ?_ ?_ (.cons rfl (.cons rfl (.cons rfl (.cons rfl (.cons rfl (.cons rfl .nil)))))) ?_
        · first | omega | (simp; omega)
        · exact ⟨hw17, by omega, by omega⟩
        · exact (.cons rfl (by first | rfl | (refine congrArg (Value.int _) ?_; omega)) .nil)
    · skip
      refine c_exit ?_
      refine e_then_exit ?_
      refine e_then_exit ?_
      refine e_blk_exit ?_
      refine e_then ?_
      refine c_keep [] .nil ?_
      refine c_seq ?_
      refine c_region ?_
      refine l_call rfl rfl Try.func11 rfl rfl .nil (wakesL10 w13) ?_
      rintro _ w18 ⟨rfl, hG⟩
      have hw18 := hG _ _ _ _ hw13
      try clear hG hw13
      simp only [List.cons_append, List.nil_append] at hw18
      refine l_assign rfl rfl rfl ?_
      refine l_nil ?_
      refine e_then ?_
      refine c_keep [4] (.cons rfl .nil) ?_
      refine c_ret ?_
      refine e_done1 Try.results5 rfl ?_
      refine ⟨_, rfl, ?_⟩
      have hw19 := St.del (.tail .head) hw18
      try clear hw18
      have hw20 := St.del .head hw19
      try clear hw19
      exact ⟨rfl, hw20.grows⟩
end Go.Proofs.Ytmcbdgpcbcldjaa.W
