/- walk of PowerSteps -/
import Derived.Test.YtellpcjmpmcpoaaPf
set_option linter.unusedVariables false
set_option linter.unusedSimpArgs false
set_option maxRecDepth 10000
namespace Go.Proofs.Ytellpcjmpmcpoaa.W
open Go.Vc Go.RowKit
theorem powerStepsL (n : Int) (hn : -9223372036854775808 ≤ n ∧ n ≤ 9223372036854775807) (w : World) :
    CallsV P 3 [.int .i64 n] w fun r w' => r = .bool true ∧ Grow w w' [] := by
  refine enterW Try.func3 rfl Try.ntmps3 rfl ?_
  have hw0 := St.start w
  have htm := tmod_in n (show (0 : Int) < 650 by omega)
  refine c_seq ?_
  refine c_region ?_
  refine l_assign rfl rfl rfl ?_
  refine l_nil ?_
  refine e_then ?_
  refine c_keep [0] (.cons rfl .nil) ?_
  refine c_seq ?_
  refine c_region ?_
  refine l_move rfl rfl rfl ?_
  refine l_rem rfl rfl rfl rfl (by omega) (rfl) ?_
  refine l_add rfl rfl rfl rfl (w_i64 (by omega)) ?_
  refine l_assign rfl rfl rfl ?_
  refine l_nil ?_
  refine e_then ?_
  refine c_keep [3] (.cons rfl .nil) ?_
  refine c_cutk (ι := Int) (fun (q : Int) (w' : World) => St w w.heap.size None' ([]) w' ∧ -342 ≤ q ∧ q ≤ 307) (fun (q : Int) => [(3, .int .i64 q)]) [] .nil ?_ ?_
  · skip
    refine c_seq ?_
    refine c_region ?_
    refine l_move rfl rfl rfl ?_
    refine l_lss rfl rfl rfl rfl ?_
    refine l_nil ?_
    refine e_then ?_
    refine c_keep [3, 16] (.cons rfl (.cons rfl .nil)) ?_
    first | refine c_cond rfl (fun hc0 => ?_) (fun hc0 => ?_) | refine c_condb rfl (fun hc0 => ?_) (fun hc0 => ?_)
    · skip
      refine c_region ?_
      refine l_move rfl rfl rfl ?_
      refine l_add rfl rfl rfl rfl (w_i64 (by omega)) ?_
      refine l_sub rfl rfl rfl rfl (w_i64 (by omega)) ?_
      refine l_assign rfl rfl rfl ?_
      refine l_nil ?_
      refine e_meetk (-342 + n.tmod 650 + 308 - -342) ?_ .nil ?_
      · exact ⟨hw0, by omega⟩
      · exact (.cons rfl (by first | rfl | (refine congrArg (Value.int _) ?_; omega)) .nil)
    · skip
      refine c_skip ?_
      refine e_meetk (-342 + n.tmod 650) ?_ .nil ?_
      · exact ⟨hw0, by omega⟩
      · exact (.cons rfl (by first | rfl | (refine congrArg (Value.int _) ?_; omega)) .nil)
  rintro q w1 ⟨hw1, hq⟩
  show RunC P _ _ _ (_ :: _) _
  refine c_seq ?_
  refine c_region ?_
  refine l_move rfl rfl rfl ?_
  refine l_call rfl rfl Try.func9 rfl rfl (.cons rfl .nil) (entryP q (by omega) w1) ?_
  rintro _ w2 ⟨rfl, hG⟩
  have hw2 := hG _ _ _ _ hw1
  try clear hG hw1
  simp only [List.cons_append, List.nil_append] at hw2
  refine l_move rfl rfl rfl ?_
  refine l_extract rfl rfl rfl rfl ?_
  refine l_extract rfl rfl rfl rfl ?_
  refine l_extract rfl rfl rfl rfl ?_
  refine l_alloc hw2 ta24 rfl rfl (fun b4_6 w3 hw3 => ?_)
  try clear hw2
  refine l_store_blks hw3 .head (.zero (.zero .nil)) rfl tz24 rfl rfl (by first | (simp [Value.oneCell']; done) | (intro u hu; simp only [List.mem_cons, List.not_mem_nil, or_false] at hu; rcases hu with rfl | rfl <;> first | rfl | assumption)) (fun w4 hw4 => ?_)
  try clear hw3
  refine l_assign rfl rfl rfl ?_
  refine l_assign rfl rfl rfl ?_
  refine l_nil ?_
  refine e_then ?_
  refine c_keep [3, 4, 5, 6] (.cons rfl (.cons rfl (.cons rfl (.cons rfl .nil)))) ?_
  refine c_seq ?_
  refine c_region ?_
  refine l_move rfl rfl rfl ?_
  refine l_add rfl rfl rfl rfl (w_i64 (by omega)) ?_
  refine l_call rfl rfl Try.func9 rfl rfl (.cons rfl .nil) (entryP (q + 1) (by omega) w4) ?_
  rintro _ w5 ⟨rfl, hG⟩
  have hw5 := hG _ _ _ _ hw4
  try clear hG hw4
  simp only [List.cons_append, List.nil_append] at hw5
  refine l_move rfl rfl rfl ?_
  refine l_extract rfl rfl rfl rfl ?_
  refine l_extract rfl rfl rfl rfl ?_
  refine l_extract rfl rfl rfl rfl ?_
  refine l_alloc hw5 ta24 rfl rfl (fun b5_7 w6 hw6 => ?_)
  try clear hw5
  refine l_store_blks hw6 .head (.zero (.zero .nil)) rfl tz24 rfl rfl (by first | (simp [Value.oneCell']; done) | (intro u hu; simp only [List.mem_cons, List.not_mem_nil, or_false] at hu; rcases hu with rfl | rfl <;> first | rfl | assumption)) (fun w7 hw7 => ?_)
  try clear hw6
  refine l_assign rfl rfl rfl ?_
  refine l_assign rfl rfl rfl ?_
  refine l_nil ?_
  refine e_then ?_
  refine c_keep [3, 4, 5, 6, 7, 8, 9] (.cons rfl (.cons rfl (.cons rfl (.cons rfl (.cons rfl (.cons rfl (.cons rfl .nil))))))) ?_
  refine c_seq ?_
  refine c_seq ?_
  refine c_region ?_
  have hst := steps_at (q := q) hq
  unfold stepP at hst
  obtain ⟨A, x, ea0, ea⟩ : ∃ A x e, entS q = (A, x, e) := ⟨_, _, _, rfl⟩
  obtain ⟨B, y, eb0, eb⟩ : ∃ B y e, entS (q + 1) = (B, y, e) := ⟨_, _, _, rfl⟩
  rw [ea, eb] at hst hw7 ⊢
  dsimp only at hst hw7 ⊢
  obtain ⟨rfl, rfl, hA0, hB0, hA1, hB1, hs2, hs3, hx0, hx1, hd1, hd2⟩ := hst
  refine l_move rfl rfl rfl ?_
  refine l_callp rfl rfl Try.func10 rfl rfl (.cons rfl .nil) (numL6 _ _) ?_
  refine l_neq rfl rfl rfl rfl ?_
  refine l_turn (s := 35) (v' := .bool false) rfl (by simp) ?_
  refine l_move rfl rfl rfl ?_
  refine l_move rfl rfl rfl ?_
  refine l_callp rfl rfl Try.func10 rfl rfl (.cons rfl .nil) (numL6 _ _) ?_
  refine l_neq rfl rfl rfl rfl ?_
  refine l_turn (s := 39) (v' := .bool false) rfl (by simp) ?_
  refine l_pick_f rfl rfl rfl rfl ?_
  refine l_move rfl rfl rfl ?_
  refine l_move rfl rfl rfl ?_
  refine l_move rfl rfl rfl ?_
  refine l_sub rfl rfl rfl rfl (w_i64 (by omega)) ?_
  refine l_lss rfl rfl rfl rfl ?_
  refine l_turn (s := 45) (v' := .bool false) rfl (by exact congrArg Value.bool (decide_eq_false (by omega))) ?_
  refine l_pick_f rfl rfl rfl rfl ?_
  refine l_move rfl rfl rfl ?_
  refine l_move rfl rfl rfl ?_
  refine l_move rfl rfl rfl ?_
  refine l_sub rfl rfl rfl rfl (w_i64 (by omega)) ?_
  refine l_gtr rfl rfl rfl rfl ?_
  refine l_turn (s := 51) (v' := .bool false) rfl (by exact congrArg Value.bool (decide_eq_false (by omega))) ?_
  refine l_pick_f rfl rfl rfl rfl ?_
  refine l_nil ?_
  refine e_then ?_
  refine c_keep [3, 4, 5, 6, 7, 8, 9, 52] (.cons rfl (.cons rfl (.cons rfl (.cons rfl (.cons rfl (.cons rfl (.cons rfl (.cons rfl .nil)))))))) ?_
  refine c_cond_f rfl rfl ?_
  refine c_skip ?_
  refine e_then ?_
  refine c_keep [4, 5, 7, 8] (.cons rfl (.cons rfl (.cons rfl (.cons rfl .nil)))) ?_
  refine c_seq ?_
  refine c_region ?_
  refine l_load_agg hw7 mem1 rfl rfl Try.underlying24 rfl tz24 rfl (.take (.take .nil)) ?_
  refine l_call rfl rfl Try.func13 rfl rfl (.cons rfl .nil) (ofR (A / 18446744073709551616) (A % 18446744073709551616) (by omega) (by omega) w7) ?_
  rintro va w8 ⟨_, la, rfl, hRa, hG⟩
  have hw8 := hG _ _ _ _ hw7
  try clear hG hw7
  simp only [List.cons_append, List.nil_append] at hw8
  rw [wide_back] at hRa
  have hla := len_of_lt hRa (k := 128) (by rw [e128]; omega)
  refine v_lit hw8 rfl rfl Try.underlying30 ti3 rfl (.cons rfl (by first | rfl | assumption) .nil) rfl rfl rfl (fun b8_2 w9 hw9 => ?_)
  try clear hw8
  refine l_call rfl rfl Try.func12 rfl rfl (.cons rfl (.cons rfl .nil)) (prodR _ _ la [5] _ 5 hRa R16_five (by omega) (by simp) w9 (hw9.io mem1) (hw9.ibl mem0)) ?_
  rintro vf w10 ⟨_, lf, rfl, hRf, hG⟩
  have hw10 := hG _ _ _ _ hw9
  try clear hG hw9
  simp only [List.cons_append, List.nil_append] at hw10
  have hlf := len_of_lt hRf (k := 132) (by rw [show (2 : Int) ^ 132 = 340282366920938463463374607431768211456 * 16 from by decide]; omega)
  refine l_assign rfl rfl rfl ?_
  refine l_nil ?_
  refine e_then ?_
  refine c_keep [5, 7, 8, 10] (.cons rfl (.cons rfl (.cons rfl (.cons rfl .nil)))) ?_
  refine c_seq ?_
  refine c_region ?_
  refine l_load_agg hw10 mem3 rfl rfl Try.underlying24 rfl tz24 rfl (.take (.take .nil)) ?_
  refine l_call rfl rfl Try.func13 rfl rfl (.cons rfl .nil) (ofR (B / 18446744073709551616) (B % 18446744073709551616) (by omega) (by omega) w10) ?_
  rintro vb w11 ⟨_, lb, rfl, hRb, hG⟩
  have hw11 := hG _ _ _ _ hw10
  try clear hG hw10
  simp only [List.cons_append, List.nil_append] at hw11
  rw [wide_back] at hRb
  have hlb := len_of_lt hRb (k := 128) (by rw [e128]; omega)
  refine l_move rfl rfl rfl ?_
  refine l_move rfl rfl rfl ?_
  refine l_sub rfl rfl rfl rfl (w_i64 (by omega)) ?_
  obtain ⟨k, hk⟩ : ∃ k : Nat, (y - x).toNat = k := ⟨_, rfl⟩
  refine l_turn (s := 76) (v' := .int .i64 (k : Int)) rfl (by refine congrArg (Value.int _) ?_; omega) ?_
  rw [hk] at hd1 hd2
  refine l_call rfl rfl Try.func14 rfl rfl (.cons rfl (.cons rfl .nil)) (leftR vb lb _ hRb (by omega) k (by omega) w11 (hw11.io mem0)) ?_
  rintro vn w12 ⟨_, ln, rfl, hRn, hG⟩
  have hw12 := hG _ _ _ _ hw11
  try clear hG hw11
  simp only [List.cons_append, List.nil_append] at hw12
  have hk23 : k = 2 ∨ k = 3 := by omega
  have hln := len_of_lt hRn (k := 132) (by rw [show (2 : Int) ^ 132 = 340282366920938463463374607431768211456 * 16 from by decide]; rcases hk23 with rfl | rfl <;> omega)
  generalize hN : B * 2 ^ k = Nn at *
  refine l_assign rfl rfl rfl ?_
  refine l_nil ?_
  refine e_then ?_
  refine c_keep [10, 11] (.cons rfl (.cons rfl .nil)) ?_
  refine c_cutk (ι := Value × List Int × Int × Value × List Int × Int) (fun (z0 : Value × List Int × Int × Value × List Int × Int) (w' : World) => match z0 with | ⟨v1, l1, m1, v2, l2, m2⟩ => St w w.heap.size None' ([As.ri 3 .i64 v1 l1, As.ri 3 .i64 v2 l2]) w' ∧ R16 l1 m1 ∧ R16 l2 m2 ∧ l1.length ≤ 20 ∧ l2.length ≤ 20 ∧ m2 ≤ m1 ∧ m1 - m2 < 16) (fun (z0 : Value × List Int × Int × Value × List Int × Int) => match z0 with | ⟨v1, l1, m1, v2, l2, m2⟩ => [(10, v1), (11, v2)]) [] .nil ?_ ?_
  · skip
    refine c_seq ?_
    refine c_region ?_
    have hw13 := St.frontL (l := [_, _]) hw12
    simp only [List.cons_append, List.nil_append] at hw13
    try clear hw12
    refine l_move rfl rfl rfl ?_
    refine l_move rfl rfl rfl ?_
    refine l_call rfl rfl Try.func15 rfl rfl (.cons rfl (.cons rfl .nil)) (cmpR _ _ lf ln _ _ hRf hRn (by omega) (by omega) w12 (hw13.io mem0) (hw13.io mem1)) ?_
    rintro _ w14 ⟨rfl, hG⟩
    have hw14 := hG _ _ _ _ hw13
    try clear hG hw13
    simp only [List.cons_append, List.nil_append] at hw14
    refine l_lss rfl rfl rfl rfl ?_
    refine l_nil ?_
    refine e_then ?_
    refine c_keep [10, 11, 81] (.cons rfl (.cons rfl (.cons rfl .nil))) ?_
    first | refine c_cond rfl (fun hc2 => ?_) (fun hc2 => ?_) | refine c_condb rfl (fun hc2 => ?_) (fun hc2 => ?_)
    · skip
      refine c_region ?_
      have hw15 := St.frontL (l := [_]) hw14
      simp only [List.cons_append, List.nil_append] at hw15
      try clear hw14
      refine l_move rfl rfl rfl ?_
      refine l_move rfl rfl rfl ?_
      refine l_assign rfl rfl rfl ?_
      refine l_assign rfl rfl rfl ?_
      refine l_nil ?_
      have hw16 := St.del (.tail (.tail (.tail (.tail (.tail (.tail .head)))))) hw15
      try clear hw15
      have hw17 := St.del (.tail (.tail (.tail (.tail (.tail .head))))) hw16
      try clear hw16
      have hw18 := St.del (.tail (.tail (.tail (.tail .head)))) hw17
      try clear hw17
      have hw19 := St.del (.tail (.tail (.tail .head))) hw18
      try clear hw18
      have hw20 := St.del (.tail (.tail .head)) hw19
      try clear hw19
      refine e_meetk (vn, ln, Nn, vf, lf, A * 5) ?_ .nil ?_
      · have hcl := cmpI_neg.1 hc2
        exact ⟨hw20, hRn, hRf, by omega, by omega, by omega, by omega⟩
      · exact (.cons rfl (by first | rfl | (refine congrArg (Value.int _) ?_; omega)) (.cons rfl (by first | rfl | (refine congrArg (Value.int _) ?_; omega)) .nil))
    · skip
      refine c_skip ?_
      have hw21 := St.del (.tail (.tail (.tail (.tail (.tail (.tail .head)))))) hw14
      try clear hw14
      have hw22 := St.del (.tail (.tail (.tail (.tail (.tail .head))))) hw21
      try clear hw21
      have hw23 := St.del (.tail (.tail (.tail (.tail .head)))) hw22
      try clear hw22
      have hw24 := St.del (.tail (.tail (.tail .head))) hw23
      try clear hw23
      have hw25 := St.del (.tail (.tail .head)) hw24
      try clear hw24
      refine e_meetk (vf, lf, A * 5, vn, ln, Nn) ?_ .nil ?_
      · have hcl : ¬ A * 5 < Nn := fun h => hc2 (cmpI_neg.2 h)
        exact ⟨hw25, hRf, hRn, by omega, by omega, by omega, by omega⟩
      · exact (.cons rfl (by first | rfl | (refine congrArg (Value.int _) ?_; omega)) (.cons rfl (by first | rfl | (refine congrArg (Value.int _) ?_; omega)) .nil))
  rintro ⟨v1, l1, m1, v2, l2, m2⟩ w26 ⟨hw26, hR1, hR2, hl1, hl2, hge, hd16⟩
  show RunC P _ _ _ (_ :: _) _
  refine c_seq ?_
  refine c_region ?_
  refine l_move rfl rfl rfl ?_
  refine l_move rfl rfl rfl ?_
  refine l_call rfl rfl Try.func16 rfl rfl (.cons rfl (.cons rfl .nil)) (lessR _ _ l1 l2 _ _ hR1 hR2 (by omega) (by omega) hge w26 (hw26.io mem0) (hw26.io mem1)) ?_
  rintro vs w27 ⟨_, ls, rfl, hRs, hG⟩
  have hw27 := hG _ _ _ _ hw26
  try clear hG hw26
  simp only [List.cons_append, List.nil_append] at hw27
  have hls := len_of_lt hRs (k := 8) (by rw [show (2 : Int) ^ 8 = 256 from by decide]; omega)
  refine v_lit hw27 rfl rfl Try.underlying30 ti3 rfl (.cons rfl (by first | rfl | assumption) .nil) rfl rfl rfl (fun b12_3 w28 hw28 => ?_)
  try clear hw27
  refine l_call rfl rfl Try.func15 rfl rfl (.cons rfl (.cons rfl .nil)) (cmpR _ _ ls [16] _ 16 hRs R16_16 (by omega) (by simp) w28 (hw28.io mem1) (hw28.ibl mem0)) ?_
  rintro _ w29 ⟨rfl, hG⟩
  have hw29 := hG _ _ _ _ hw28
  try clear hG hw28
  simp only [List.cons_append, List.nil_append] at hw29
  refine l_lss rfl rfl rfl rfl ?_
  refine l_turn (s := 89) (v' := .bool true) rfl (by exact congrArg Value.bool (decide_eq_true (cmpI_neg.2 (by omega)))) ?_
  refine l_move rfl rfl rfl ?_
  refine l_call rfl rfl Try.func11 rfl rfl .nil (wakes6 w29) ?_
  rintro _ w30 ⟨rfl, hG⟩
  have hw30 := hG _ _ _ _ hw29
  try clear hG hw29
  simp only [List.cons_append, List.nil_append] at hw30
  refine l_turn (s := 91) (v' := .bool true) rfl (by rfl) ?_
  refine l_pick_t rfl rfl rfl rfl ?_
  refine l_assign rfl rfl rfl ?_
  refine l_nil ?_
  refine e_then ?_
  refine c_keep [2] (.cons rfl .nil) ?_
  refine c_ret ?_
  refine e_done1 Try.results3 rfl ?_
  refine ⟨_, rfl, ?_⟩
  have hw31 := St.del (.tail (.tail (.tail .head))) hw30
  try clear hw30
  have hw32 := St.del (.tail (.tail .head)) hw31
  try clear hw31
  have hw33 := St.del (.tail .head) hw32
  try clear hw32
  have hw34 := St.del .head hw33
  try clear hw33
  exact ⟨rfl, hw34.grows⟩
end Go.Proofs.Ytellpcjmpmcpoaa.W
