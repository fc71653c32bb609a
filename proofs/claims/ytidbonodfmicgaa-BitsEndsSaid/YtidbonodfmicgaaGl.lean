/- walk of the law BitsEnds -/
import Derived.Test.YtidbonodfmicgaaGj
set_option linter.unusedVariables false
set_option linter.unusedSimpArgs false
set_option maxRecDepth 10000
namespace Go.Proofs.Ytidbonodfmicgaa.W
open Go.Vc Go.RowKit

theorem joinV {k man exp : Int} {neg : Bool} {d : Kd} {r : Int × Bool × Int} (hk : kd k = some d) (hm : 0 < man ∧ man < 18446744073709551616) (h : sgR d neg (packF d man exp false) = r) : JoinR k neg man exp r := by
  rw [← h]; exact JoinR.is hk (join_rnd d hm rfl)
theorem joinZ {k exp : Int} {neg : Bool} {d : Kd} (hk : kd k = some d) : JoinR k neg 0 exp (sgR d neg (0, true, 0)) := by
  refine JoinR.is hk ?_
  rw [Int.zero_mul, Int.zero_mul]
  exact RndR.zero d.I_lt.2.2 d.I_lt.1 d.I_lt.2.1 (p2 _)

theorem bitsEndsL  (w : World) :
    CallsV P 8 [] w fun r w' => r = .bool true ∧ Grow w w' [] := by
  refine enterW Try.func8 rfl Try.ntmps8 rfl ?_
  have hw0 := St.start w
  refine c_seq ?_
  refine c_region ?_
  refine l_assign rfl rfl rfl ?_
  refine l_nil ?_
  refine e_then ?_
  refine c_keep [] .nil ?_
  refine c_seq ?_
  refine c_region ?_
  refine l_buildS rfl rfl pl34 ta34 (.one rfl rfl (by first | rfl | assumption) (.succ .zero) (.one rfl rfl (by first | rfl | assumption) (.succ (.succ .zero)) .nil)) ?_
  refine l_call rfl rfl Try.func15 rfl rfl (.cons rfl (.cons rfl .nil)) (joinB 10 false 18014398509481983 970 (by omega) (by omega) w) ?_
  rintro _ w1 ⟨res, rfl, hJ, hG⟩
  have hw1 := hG _ _ _ _ hw0
  try clear hG hw0
  simp only [List.cons_append, List.nil_append] at hw1
  obtain rfl := hJ.unique (show JoinR 10 false 18014398509481983 970 (0, false, 34) from joinV (d := .f64) rfl (by decide) (by decide +kernel))
  refine l_move rfl rfl rfl ?_
  refine l_extract rfl rfl rfl rfl ?_
  refine l_extract rfl rfl rfl rfl ?_
  refine l_extract rfl rfl rfl rfl ?_
  refine l_assign rfl rfl rfl ?_
  refine l_assign rfl rfl rfl ?_
  refine l_assign rfl rfl rfl ?_
  refine l_nil ?_
  refine e_then ?_
  refine c_keep [1, 2, 3] (.cons rfl (.cons rfl (.cons rfl .nil))) ?_
  refine c_seq ?_
  refine c_region ?_
  refine l_buildS rfl rfl pl34 ta34 (.one rfl rfl (by first | rfl | assumption) (.succ .zero) (.one rfl rfl (by first | rfl | assumption) (.succ (.succ .zero)) .nil)) ?_
  refine l_call rfl rfl Try.func15 rfl rfl (.cons rfl (.cons rfl .nil)) (joinB 10 false 18014398509481981 970 (by omega) (by omega) w1) ?_
  rintro _ w2 ⟨res, rfl, hJ, hG⟩
  have hw2 := hG _ _ _ _ hw1
  try clear hG hw1
  simp only [List.cons_append, List.nil_append] at hw2
  obtain rfl := hJ.unique (show JoinR 10 false 18014398509481981 970 (9218868437227405310, false, 0) from joinV (d := .f64) rfl (by decide) (by decide +kernel))
  refine l_move rfl rfl rfl ?_
  refine l_extract rfl rfl rfl rfl ?_
  refine l_extract rfl rfl rfl rfl ?_
  refine l_extract rfl rfl rfl rfl ?_
  refine l_assign rfl rfl rfl ?_
  refine l_assign rfl rfl rfl ?_
  refine l_assign rfl rfl rfl ?_
  refine l_nil ?_
  refine e_then ?_
  refine c_keep [1, 2, 3, 4, 5, 6] (.cons rfl (.cons rfl (.cons rfl (.cons rfl (.cons rfl (.cons rfl .nil)))))) ?_
  refine c_seq ?_
  refine c_region ?_
  refine l_buildS rfl rfl pl34 ta34 (.one rfl rfl (by first | rfl | assumption) (.succ .zero) (.one rfl rfl (by first | rfl | assumption) (.succ (.succ .zero)) .nil)) ?_
  refine l_call rfl rfl Try.func15 rfl rfl (.cons rfl (.cons rfl .nil)) (joinB 10 false 18014398509481982 970 (by omega) (by omega) w2) ?_
  rintro _ w3 ⟨res, rfl, hJ, hG⟩
  have hw3 := hG _ _ _ _ hw2
  try clear hG hw2
  simp only [List.cons_append, List.nil_append] at hw3
  obtain rfl := hJ.unique (show JoinR 10 false 18014398509481982 970 (9218868437227405311, true, 0) from joinV (d := .f64) rfl (by decide) (by decide +kernel))
  refine l_move rfl rfl rfl ?_
  refine l_extract rfl rfl rfl rfl ?_
  refine l_extract rfl rfl rfl rfl ?_
  refine l_extract rfl rfl rfl rfl ?_
  refine l_assign rfl rfl rfl ?_
  refine l_assign rfl rfl rfl ?_
  refine l_assign rfl rfl rfl ?_
  refine l_nil ?_
  refine e_then ?_
  refine c_keep [1, 2, 3, 4, 5, 6, 7, 8, 9] (.cons rfl (.cons rfl (.cons rfl (.cons rfl (.cons rfl (.cons rfl (.cons rfl (.cons rfl (.cons rfl .nil))))))))) ?_
  refine c_seq ?_
  refine c_region ?_
  refine l_buildS rfl rfl pl34 ta34 (.one rfl rfl (by first | rfl | assumption) .zero (.one rfl rfl (by first | rfl | assumption) (.succ (.succ .zero)) .nil)) ?_
  refine l_call rfl rfl Try.func15 rfl rfl (.cons rfl (.cons rfl .nil)) (joinB 10 true 0 9223372036854775807 (by omega) (by omega) w3) ?_
  rintro _ w4 ⟨res, rfl, hJ, hG⟩
  have hw4 := hG _ _ _ _ hw3
  try clear hG hw3
  simp only [List.cons_append, List.nil_append] at hw4
  obtain rfl := hJ.unique (show JoinR 10 true 0 9223372036854775807 (9223372036854775808, true, 0) from joinZ (d := .f64) rfl)
  refine l_move rfl rfl rfl ?_
  refine l_extract rfl rfl rfl rfl ?_
  refine l_extract rfl rfl rfl rfl ?_
  refine l_extract rfl rfl rfl rfl ?_
  refine l_assign rfl rfl rfl ?_
  refine l_assign rfl rfl rfl ?_
  refine l_assign rfl rfl rfl ?_
  refine l_nil ?_
  refine e_then ?_
  refine c_keep [1, 2, 3, 4, 5, 6, 7, 8, 9, 10, 11, 12] (.cons rfl (.cons rfl (.cons rfl (.cons rfl (.cons rfl (.cons rfl (.cons rfl (.cons rfl (.cons rfl (.cons rfl (.cons rfl (.cons rfl .nil)))))))))))) ?_
  refine c_seq ?_
  refine c_region ?_
  refine l_buildS rfl rfl pl34 ta34 (.one rfl rfl (by first | rfl | assumption) (.succ .zero) (.one rfl rfl (by first | rfl | assumption) (.succ (.succ .zero)) .nil)) ?_
  refine l_call rfl rfl Try.func15 rfl rfl (.cons rfl (.cons rfl .nil)) (joinB 9 false 1 (-150) (by omega) (by omega) w4) ?_
  rintro _ w5 ⟨res, rfl, hJ, hG⟩
  have hw5 := hG _ _ _ _ hw4
  try clear hG hw4
  simp only [List.cons_append, List.nil_append] at hw5
  obtain rfl := hJ.unique (show JoinR 9 false 1 (-150) (0, false, 0) from joinV (d := .f32) rfl (by decide) (by decide +kernel))
  refine l_move rfl rfl rfl ?_
  refine l_extract rfl rfl rfl rfl ?_
  refine l_extract rfl rfl rfl rfl ?_
  refine l_extract rfl rfl rfl rfl ?_
  refine l_assign rfl rfl rfl ?_
  refine l_assign rfl rfl rfl ?_
  refine l_assign rfl rfl rfl ?_
  refine l_nil ?_
  refine e_then ?_
  refine c_keep [1, 2, 3, 4, 5, 6, 7, 8, 9, 10, 11, 12, 13, 14, 15] (.cons rfl (.cons rfl (.cons rfl (.cons rfl (.cons rfl (.cons rfl (.cons rfl (.cons rfl (.cons rfl (.cons rfl (.cons rfl (.cons rfl (.cons rfl (.cons rfl (.cons rfl .nil))))))))))))))) ?_
  refine c_seq ?_
  refine c_region ?_
  refine l_buildS rfl rfl pl34 ta34 (.one rfl rfl (by first | rfl | assumption) (.succ .zero) (.one rfl rfl (by first | rfl | assumption) (.succ (.succ .zero)) .nil)) ?_
  refine l_call rfl rfl Try.func15 rfl rfl (.cons rfl (.cons rfl .nil)) (joinB 9 false 3 (-151) (by omega) (by omega) w5) ?_
  rintro _ w6 ⟨res, rfl, hJ, hG⟩
  have hw6 := hG _ _ _ _ hw5
  try clear hG hw5
  simp only [List.cons_append, List.nil_append] at hw6
  obtain rfl := hJ.unique (show JoinR 9 false 3 (-151) (1, false, 0) from joinV (d := .f32) rfl (by decide) (by decide +kernel))
  refine l_move rfl rfl rfl ?_
  refine l_extract rfl rfl rfl rfl ?_
  refine l_extract rfl rfl rfl rfl ?_
  refine l_extract rfl rfl rfl rfl ?_
  refine l_assign rfl rfl rfl ?_
  refine l_assign rfl rfl rfl ?_
  refine l_assign rfl rfl rfl ?_
  refine l_nil ?_
  refine e_then ?_
  refine c_keep [1, 2, 3, 4, 5, 6, 7, 8, 9, 10, 11, 12, 13, 14, 15, 16, 17, 18] (.cons rfl (.cons rfl (.cons rfl (.cons rfl (.cons rfl (.cons rfl (.cons rfl (.cons rfl (.cons rfl (.cons rfl (.cons rfl (.cons rfl (.cons rfl (.cons rfl (.cons rfl (.cons rfl (.cons rfl (.cons rfl .nil)))))))))))))))))) ?_
  refine c_seq ?_
  refine c_region ?_
  refine l_move rfl rfl rfl ?_
  refine l_callp rfl rfl Try.func13 rfl rfl (.cons rfl .nil) (num3 _ _) ?_
  refine l_eql rfl rfl rfl rfl ?_
  refine l_turn (s := 71) (v' := .bool true) rfl (by rfl) ?_
  refine l_move rfl rfl rfl ?_
  refine l_move rfl rfl rfl ?_
  refine l_eql rfl rfl rfl rfl ?_
  refine l_turn (s := 74) (v' := .bool true) rfl (by rfl) ?_
  refine l_pick_t rfl rfl rfl rfl ?_
  refine l_move rfl rfl rfl ?_
  refine l_move rfl rfl rfl ?_
  first | refine l_notd rfl rfl rfl ?_ | refine l_not rfl rfl rfl ?_
  refine l_turn (s := 78) (v' := .bool true) rfl (by rfl) ?_
  refine l_pick_t rfl rfl rfl rfl ?_
  refine l_move rfl rfl rfl ?_
  refine l_move rfl rfl rfl ?_
  refine l_callp rfl rfl Try.func13 rfl rfl (.cons rfl .nil) (num3 _ _) ?_
  refine l_eql rfl rfl rfl rfl ?_
  refine l_turn (s := 83) (v' := .bool true) rfl (by rfl) ?_
  refine l_pick_t rfl rfl rfl rfl ?_
  refine l_move rfl rfl rfl ?_
  refine l_move rfl rfl rfl ?_
  refine l_eql rfl rfl rfl rfl ?_
  refine l_turn (s := 87) (v' := .bool true) rfl (by rfl) ?_
  refine l_pick_t rfl rfl rfl rfl ?_
  refine l_move rfl rfl rfl ?_
  refine l_move rfl rfl rfl ?_
  first | refine l_notd rfl rfl rfl ?_ | refine l_not rfl rfl rfl ?_
  refine l_turn (s := 91) (v' := .bool true) rfl (by rfl) ?_
  refine l_pick_t rfl rfl rfl rfl ?_
  refine l_move rfl rfl rfl ?_
  refine l_move rfl rfl rfl ?_
  refine l_callp rfl rfl Try.func13 rfl rfl (.cons rfl .nil) (num3 _ _) ?_
  refine l_eql rfl rfl rfl rfl ?_
  refine l_turn (s := 96) (v' := .bool true) rfl (by rfl) ?_
  refine l_pick_t rfl rfl rfl rfl ?_
  refine l_move rfl rfl rfl ?_
  refine l_move rfl rfl rfl ?_
  refine l_eql rfl rfl rfl rfl ?_
  refine l_turn (s := 100) (v' := .bool true) rfl (by rfl) ?_
  refine l_pick_t rfl rfl rfl rfl ?_
  refine l_move rfl rfl rfl ?_
  refine l_move rfl rfl rfl ?_
  refine l_turn (s := 103) (v' := .bool true) rfl (by rfl) ?_
  refine l_pick_t rfl rfl rfl rfl ?_
  refine l_assign rfl rfl rfl ?_
  refine l_nil ?_
  refine e_then ?_
  refine c_keep [10, 11, 12, 13, 14, 15, 16, 17, 18, 19] (.cons rfl (.cons rfl (.cons rfl (.cons rfl (.cons rfl (.cons rfl (.cons rfl (.cons rfl (.cons rfl (.cons rfl .nil)))))))))) ?_
  refine c_seq ?_
  refine c_region ?_
  refine l_move rfl rfl rfl ?_
  refine l_callp rfl rfl Try.func13 rfl rfl (.cons rfl .nil) (num3 _ _) ?_
  refine l_eql rfl rfl rfl rfl ?_
  refine l_turn (s := 107) (v' := .bool true) rfl (by rfl) ?_
  refine l_move rfl rfl rfl ?_
  refine l_move rfl rfl rfl ?_
  refine l_eql rfl rfl rfl rfl ?_
  refine l_turn (s := 110) (v' := .bool true) rfl (by rfl) ?_
  refine l_pick_t rfl rfl rfl rfl ?_
  refine l_move rfl rfl rfl ?_
  refine l_move rfl rfl rfl ?_
  refine l_turn (s := 113) (v' := .bool true) rfl (by rfl) ?_
  refine l_pick_t rfl rfl rfl rfl ?_
  refine l_move rfl rfl rfl ?_
  refine l_move rfl rfl rfl ?_
  refine l_callp rfl rfl Try.func13 rfl rfl (.cons rfl .nil) (num3 _ _) ?_
  refine l_eql rfl rfl rfl rfl ?_
  refine l_turn (s := 118) (v' := .bool true) rfl (by rfl) ?_
  refine l_pick_t rfl rfl rfl rfl ?_
  refine l_move rfl rfl rfl ?_
  refine l_move rfl rfl rfl ?_
  refine l_eql rfl rfl rfl rfl ?_
  refine l_turn (s := 122) (v' := .bool true) rfl (by rfl) ?_
  refine l_pick_t rfl rfl rfl rfl ?_
  refine l_move rfl rfl rfl ?_
  refine l_move rfl rfl rfl ?_
  first | refine l_notd rfl rfl rfl ?_ | refine l_not rfl rfl rfl ?_
  refine l_turn (s := 126) (v' := .bool true) rfl (by rfl) ?_
  refine l_pick_t rfl rfl rfl rfl ?_
  refine l_move rfl rfl rfl ?_
  refine l_move rfl rfl rfl ?_
  refine l_callp rfl rfl Try.func13 rfl rfl (.cons rfl .nil) (num3 _ _) ?_
  refine l_eql rfl rfl rfl rfl ?_
  refine l_turn (s := 131) (v' := .bool true) rfl (by rfl) ?_
  refine l_pick_t rfl rfl rfl rfl ?_
  refine l_move rfl rfl rfl ?_
  refine l_move rfl rfl rfl ?_
  refine l_eql rfl rfl rfl rfl ?_
  refine l_turn (s := 135) (v' := .bool true) rfl (by rfl) ?_
  refine l_pick_t rfl rfl rfl rfl ?_
  refine l_move rfl rfl rfl ?_
  refine l_move rfl rfl rfl ?_
  first | refine l_notd rfl rfl rfl ?_ | refine l_not rfl rfl rfl ?_
  refine l_turn (s := 139) (v' := .bool true) rfl (by rfl) ?_
  refine l_pick_t rfl rfl rfl rfl ?_
  refine l_assign rfl rfl rfl ?_
  refine l_nil ?_
  refine e_then ?_
  refine c_keep [19, 20] (.cons rfl (.cons rfl .nil)) ?_
  refine c_seq ?_
  refine c_region ?_
  refine l_call rfl rfl Try.func18 rfl rfl (.cons rfl (.cons rfl .nil)) (nextB 9 2139095039 (by omega) w6) ?_
  rintro _ w7 ⟨rfl, hG⟩
  have hw7 := hG _ _ _ _ hw6
  try clear hG hw6
  simp only [List.cons_append, List.nil_append] at hw7
  rw [show nxF 9 2139095039 = (0, 34) from by decide +kernel]
  refine l_move rfl rfl rfl ?_
  refine l_extract rfl rfl rfl rfl ?_
  refine l_extract rfl rfl rfl rfl ?_
  refine l_assign rfl rfl rfl ?_
  refine l_assign rfl rfl rfl ?_
  refine l_nil ?_
  refine e_then ?_
  refine c_keep [19, 20, 22] (.cons rfl (.cons rfl (.cons rfl .nil))) ?_
  refine c_seq ?_
  refine c_region ?_
  refine l_call rfl rfl Try.func29 rfl rfl (.cons rfl (.cons rfl .nil)) (prevB 9 4286578687 (by omega) w7) ?_
  rintro _ w8 ⟨rfl, hG⟩
  have hw8 := hG _ _ _ _ hw7
  try clear hG hw7
  simp only [List.cons_append, List.nil_append] at hw8
  rw [show prF 9 4286578687 = (0, 34) from by decide +kernel]
  refine l_move rfl rfl rfl ?_
  refine l_extract rfl rfl rfl rfl ?_
  refine l_extract rfl rfl rfl rfl ?_
  refine l_assign rfl rfl rfl ?_
  refine l_assign rfl rfl rfl ?_
  refine l_nil ?_
  refine e_then ?_
  refine c_keep [19, 20, 22, 24] (.cons rfl (.cons rfl (.cons rfl (.cons rfl .nil)))) ?_
  refine c_seq ?_
  refine c_region ?_
  refine l_call rfl rfl Try.func18 rfl rfl (.cons rfl (.cons rfl .nil)) (nextB 9 2139095040 (by omega) w8) ?_
  rintro _ w9 ⟨rfl, hG⟩
  have hw9 := hG _ _ _ _ hw8
  try clear hG hw8
  simp only [List.cons_append, List.nil_append] at hw9
  rw [show nxF 9 2139095040 = (0, 32) from by decide +kernel]
  refine l_move rfl rfl rfl ?_
  refine l_extract rfl rfl rfl rfl ?_
  refine l_extract rfl rfl rfl rfl ?_
  refine l_assign rfl rfl rfl ?_
  refine l_assign rfl rfl rfl ?_
  refine l_nil ?_
  refine e_then ?_
  refine c_keep [19, 20, 22, 24, 26] (.cons rfl (.cons rfl (.cons rfl (.cons rfl (.cons rfl .nil))))) ?_
  refine c_seq ?_
  refine c_region ?_
  refine l_call rfl rfl Try.func18 rfl rfl (.cons rfl (.cons rfl .nil)) (nextB 9 2147483649 (by omega) w9) ?_
  rintro _ w10 ⟨rfl, hG⟩
  have hw10 := hG _ _ _ _ hw9
  try clear hG hw9
  simp only [List.cons_append, List.nil_append] at hw10
  rw [show nxF 9 2147483649 = (2147483648, 0) from by decide +kernel]
  refine l_move rfl rfl rfl ?_
  refine l_extract rfl rfl rfl rfl ?_
  refine l_extract rfl rfl rfl rfl ?_
  refine l_assign rfl rfl rfl ?_
  refine l_assign rfl rfl rfl ?_
  refine l_nil ?_
  refine e_then ?_
  refine c_keep [19, 20, 22, 24, 26, 27, 28] (.cons rfl (.cons rfl (.cons rfl (.cons rfl (.cons rfl (.cons rfl (.cons rfl .nil))))))) ?_
  refine c_seq ?_
  refine c_region ?_
  refine l_call rfl rfl Try.func25 rfl rfl (.cons rfl (.cons rfl .nil)) (classB 9 4294967296 (by omega) w10) ?_
  rintro _ w11 ⟨rfl, hG⟩
  have hw11 := hG _ _ _ _ hw10
  try clear hG hw10
  simp only [List.cons_append, List.nil_append] at hw11
  rw [show clsF 9 4294967296 = (0, 31) from by decide +kernel]
  refine l_move rfl rfl rfl ?_
  refine l_extract rfl rfl rfl rfl ?_
  refine l_extract rfl rfl rfl rfl ?_
  refine l_assign rfl rfl rfl ?_
  refine l_assign rfl rfl rfl ?_
  refine l_nil ?_
  refine e_then ?_
  refine c_keep [19, 20, 22, 24, 26, 27, 28, 30] (.cons rfl (.cons rfl (.cons rfl (.cons rfl (.cons rfl (.cons rfl (.cons rfl (.cons rfl .nil)))))))) ?_
  refine c_seq ?_
  refine c_region ?_
  refine l_call rfl rfl Try.func25 rfl rfl (.cons rfl (.cons rfl .nil)) (classB 15 0 (by omega) w11) ?_
  rintro _ w12 ⟨rfl, hG⟩
  have hw12 := hG _ _ _ _ hw11
  try clear hG hw11
  simp only [List.cons_append, List.nil_append] at hw12
  rw [show clsF 15 0 = (0, 30) from by decide +kernel]
  refine l_move rfl rfl rfl ?_
  refine l_extract rfl rfl rfl rfl ?_
  refine l_extract rfl rfl rfl rfl ?_
  refine l_assign rfl rfl rfl ?_
  refine l_assign rfl rfl rfl ?_
  refine l_nil ?_
  refine e_then ?_
  refine c_keep [19, 20, 22, 24, 26, 27, 28, 30, 32] (.cons rfl (.cons rfl (.cons rfl (.cons rfl (.cons rfl (.cons rfl (.cons rfl (.cons rfl (.cons rfl .nil))))))))) ?_
  refine c_seq ?_
  refine c_region ?_
  refine l_move rfl rfl rfl ?_
  refine l_turn (s := 165) (v' := .bool true) rfl (by rfl) ?_
  refine l_move rfl rfl rfl ?_
  refine l_move rfl rfl rfl ?_
  refine l_turn (s := 167) (v' := .bool true) rfl (by rfl) ?_
  refine l_pick_t rfl rfl rfl rfl ?_
  refine l_move rfl rfl rfl ?_
  refine l_move rfl rfl rfl ?_
  refine l_callp rfl rfl Try.func13 rfl rfl (.cons rfl .nil) (num3 _ _) ?_
  refine l_eql rfl rfl rfl rfl ?_
  refine l_turn (s := 172) (v' := .bool true) rfl (by rfl) ?_
  refine l_pick_t rfl rfl rfl rfl ?_
  refine l_move rfl rfl rfl ?_
  refine l_move rfl rfl rfl ?_
  refine l_callp rfl rfl Try.func13 rfl rfl (.cons rfl .nil) (num3 _ _) ?_
  refine l_eql rfl rfl rfl rfl ?_
  refine l_turn (s := 177) (v' := .bool true) rfl (by rfl) ?_
  refine l_pick_t rfl rfl rfl rfl ?_
  refine l_move rfl rfl rfl ?_
  refine l_move rfl rfl rfl ?_
  refine l_callp rfl rfl Try.func13 rfl rfl (.cons rfl .nil) (num3 _ _) ?_
  refine l_eql rfl rfl rfl rfl ?_
  refine l_turn (s := 182) (v' := .bool true) rfl (by rfl) ?_
  refine l_pick_t rfl rfl rfl rfl ?_
  refine l_move rfl rfl rfl ?_
  refine l_move rfl rfl rfl ?_
  refine l_eql rfl rfl rfl rfl ?_
  refine l_turn (s := 186) (v' := .bool true) rfl (by rfl) ?_
  refine l_pick_t rfl rfl rfl rfl ?_
  refine l_move rfl rfl rfl ?_
  refine l_move rfl rfl rfl ?_
  refine l_callp rfl rfl Try.func13 rfl rfl (.cons rfl .nil) (num3 _ _) ?_
  refine l_eql rfl rfl rfl rfl ?_
  refine l_turn (s := 191) (v' := .bool true) rfl (by rfl) ?_
  refine l_pick_t rfl rfl rfl rfl ?_
  refine l_move rfl rfl rfl ?_
  refine l_move rfl rfl rfl ?_
  refine l_callp rfl rfl Try.func13 rfl rfl (.cons rfl .nil) (num3 _ _) ?_
  refine l_eql rfl rfl rfl rfl ?_
  refine l_turn (s := 196) (v' := .bool true) rfl (by rfl) ?_
  refine l_pick_t rfl rfl rfl rfl ?_
  refine l_move rfl rfl rfl ?_
  refine l_move rfl rfl rfl ?_
  refine l_callp rfl rfl Try.func13 rfl rfl (.cons rfl .nil) (num3 _ _) ?_
  refine l_eql rfl rfl rfl rfl ?_
  refine l_turn (s := 201) (v' := .bool true) rfl (by rfl) ?_
  refine l_pick_t rfl rfl rfl rfl ?_
  refine l_move rfl rfl rfl ?_
  refine l_call rfl rfl Try.func14 rfl rfl .nil (wakes3 w12) ?_
  rintro _ w13 ⟨rfl, hG⟩
  have hw13 := hG _ _ _ _ hw12
  try clear hG hw12
  simp only [List.cons_append, List.nil_append] at hw13
  refine l_turn (s := 204) (v' := .bool true) rfl (by rfl) ?_
  refine l_pick_t rfl rfl rfl rfl ?_
  refine l_assign rfl rfl rfl ?_
  refine l_nil ?_
  refine e_then ?_
  refine c_keep [0] (.cons rfl .nil) ?_
  refine c_ret ?_
  refine e_done1 Try.results8 rfl ?_
  refine ⟨_, rfl, ?_⟩
  exact ⟨rfl, hw13.grows⟩
end Go.Proofs.Ytidbonodfmicgaa.W
