/- walk of ScanExact -/
import Derived.Test.YtjkaahnadaapoaaSk
import Derived.Test.YtjkaahnadaapoaaLo
set_option linter.unusedVariables false
set_option linter.unusedSimpArgs false
set_option maxRecDepth 10000
namespace Go.Proofs.Ytjkaahnadaapoaa.W
open Go.Vc Go.RowKit
theorem scanExactL (v : Value) (l : L8) (w : World) (hv : IB w v l) :
    CallsV P 7 [v] w fun r w' => r = .bool true ∧ Grow w w' [] := by
  refine enterW Try.func7 rfl Try.ntmps7 rfl ?_
  have hw0 := St.start w
  refine c_seq ?_
  refine c_region ?_
  refine l_assign rfl rfl rfl ?_
  refine l_nil ?_
  refine e_then ?_
  refine c_keep [0] (.cons rfl .nil) ?_
  refine c_seq ?_
  refine c_region ?_
  refine l_move rfl rfl rfl ?_
  refine l_call rfl rfl Try.func9 rfl rfl (.cons rfl (.cons rfl .nil)) (cutK v l 1100 w hv) ?_
  rintro va _ ⟨hv1, rfl⟩
  have lt1 : (l.take 1100).length ≤ 1100 := by rw [List.length_take]; omega
  generalize l.take 1100 = t at hv1 lt1
  refine l_assign rfl rfl rfl ?_
  refine l_nil ?_
  refine e_then ?_
  refine c_keep [0] (.cons rfl .nil) ?_
  refine c_seq ?_
  refine c_region ?_
  refine l_move rfl rfl rfl ?_
  refine l_call rfl rfl Try.func10 rfl rfl (.cons rfl .nil) (lendB _ t (by omega) w (hw0.iarg hv1)) ?_
  rintro _ w1 ⟨A, c, rfl, hG⟩
  have hw1 := hG _ _ _ _ hw0
  try clear hG hw0
  simp only [List.cons_append, List.nil_append] at hw1
  obtain ⟨ad, rfl⟩ := someB_ok (hw1.ok mem0)
  refine l_assign rfl rfl rfl ?_
  refine l_nil ?_
  refine e_then ?_
  refine c_keep [0, 3] (.cons rfl (.cons rfl .nil)) ?_
  refine c_seq ?_
  refine c_region ?_
  refine l_move rfl rfl rfl ?_
  refine l_call rfl rfl Try.func17 rfl rfl (.cons rfl .nil) (exactS _ t (by omega) w1 (headB_ok (hw1.ok mem0))) ?_
  rintro _ w2 ⟨vn1, ln1, n1, x1, e1, rfl, hcn1, hE1, hG⟩
  have hw2 := hG _ _ _ _ hw1
  try clear hG hw1
  simp only [List.cons_append, List.nil_append] at hw2
  refine l_move rfl rfl rfl ?_
  refine l_extract rfl rfl rfl rfl ?_
  refine l_extract rfl rfl rfl rfl ?_
  refine l_extract rfl rfl rfl rfl ?_
  refine l_assign rfl rfl rfl ?_
  refine l_assign rfl rfl rfl ?_
  refine l_assign rfl rfl rfl ?_
  refine l_nil ?_
  refine e_then ?_
  refine c_keep [0, 3, 4, 5, 6] (.cons rfl (.cons rfl (.cons rfl (.cons rfl (.cons rfl .nil))))) ?_
  refine c_seq ?_
  refine c_region ?_
  refine l_move rfl rfl rfl ?_
  refine l_call rfl rfl Try.func17 rfl rfl (.cons rfl .nil) (exactS _ t (by omega) w2 (headB_ok (hw2.ok mem1))) ?_
  rintro _ w3 ⟨vn2, ln2, n2, x2, e2, rfl, hcn2, hE2, hG⟩
  have hw3 := hG _ _ _ _ hw2
  try clear hG hw2
  simp only [List.cons_append, List.nil_append] at hw3
  refine l_move rfl rfl rfl ?_
  refine l_extract rfl rfl rfl rfl ?_
  refine l_extract rfl rfl rfl rfl ?_
  refine l_extract rfl rfl rfl rfl ?_
  refine l_assign rfl rfl rfl ?_
  refine l_assign rfl rfl rfl ?_
  refine l_assign rfl rfl rfl ?_
  refine l_nil ?_
  refine e_then ?_
  refine c_keep [0, 3, 4, 5, 6, 7] (.cons rfl (.cons rfl (.cons rfl (.cons rfl (.cons rfl (.cons rfl .nil)))))) ?_
  refine c_seq ?_
  refine c_region ?_
  refine l_move rfl rfl rfl ?_
  refine l_call rfl rfl Try.func18 rfl rfl (.cons rfl .nil) (exact8 _ t (by omega) w3 (hw3.iarg hv1)) ?_
  rintro _ w4 ⟨vx, lx, n3, x3, e3, rfl, hRx, hnx, hE3, hG⟩
  have hw4 := hG _ _ _ _ hw3
  try clear hG hw3
  simp only [List.cons_append, List.nil_append] at hw4
  refine l_move rfl rfl rfl ?_
  refine l_extract rfl rfl rfl rfl ?_
  refine l_extract rfl rfl rfl rfl ?_
  refine l_extract rfl rfl rfl rfl ?_
  refine l_assign rfl rfl rfl ?_
  refine l_assign rfl rfl rfl ?_
  refine l_assign rfl rfl rfl ?_
  refine l_nil ?_
  refine e_then ?_
  refine c_keep [0, 3, 4, 5, 6, 7, 10, 11, 12] (.cons rfl (.cons rfl (.cons rfl (.cons rfl (.cons rfl (.cons rfl (.cons rfl (.cons rfl (.cons rfl .nil))))))))) ?_
  refine c_seq ?_
  refine c_seq ?_
  refine c_region ?_
  obtain ⟨rfl, rfl, rfl⟩ := hE1.unique hE3
  obtain ⟨rfl, rfl, rfl⟩ := hE2.unique hE1
  have hn0 := Ma.Cn.nonneg (by omega) hRx
  have hbx : Ma.blen _ ≤ (8192 : Nat) := (Ma.blen_le_iff hn0 8192).2 hnx
  have hl1 := cn_len8 hcn1 (k := 8192) hbx
  have hl2 := cn_len8 hcn2 (k := 8192) hbx
  have heb := hE1.ebd
  refine l_move rfl rfl rfl ?_
  refine l_move rfl rfl rfl ?_
  refine l_call rfl rfl Try.func20 rfl rfl (.cons rfl .nil) (wordsR vx lx _ hRx (by have := hRx.len (k := 8192) hbx; omega) w4 (hw4.io mem0)) ?_
  rintro _ w5 ⟨vw, lw, rfl, hcw, hG⟩
  have hw5 := hG _ _ _ _ hw4
  try clear hG hw4
  simp only [List.cons_append, List.nil_append] at hw5
  refine l_call rfl rfl Try.func19 rfl rfl (.cons rfl (.cons rfl .nil)) (wordsK _ _ ln1 lw (cnU hcn1) (cnU hcw) (by omega) (by have := cn_len8 hcw (k := 8192) hbx; omega) w5 (hw5.io mem3) (hw5.io mem0)) ?_
  rintro _ w6 ⟨rfl, hG⟩
  have hw6 := hG _ _ _ _ hw5
  try clear hG hw5
  simp only [List.cons_append, List.nil_append] at hw6
  refine l_turn (s := 39) (v' := .bool true) rfl (by rw [decide_eq_true (hcn1.eq (by omega) hcw)]) ?_
  first | refine l_notd rfl rfl rfl ?_ | refine l_not rfl rfl rfl ?_
  refine l_turn (s := 40) (v' := .bool false) rfl (by rfl) ?_
  refine l_move rfl rfl rfl ?_
  refine l_move rfl rfl rfl ?_
  refine l_move rfl rfl rfl ?_
  refine l_neq rfl rfl rfl rfl ?_
  refine l_turn (s := 44) (v' := .bool false) rfl (by simp) ?_
  refine l_pick_f rfl rfl rfl rfl ?_
  refine l_move rfl rfl rfl ?_
  refine l_move rfl rfl rfl ?_
  refine l_callp rfl rfl Try.func13 rfl rfl (.cons rfl .nil) (numL _ heb _) ?_
  refine l_move rfl rfl rfl ?_
  refine l_neq rfl rfl rfl rfl ?_
  refine l_turn (s := 50) (v' := .bool false) rfl (by simp) ?_
  refine l_pick_f rfl rfl rfl rfl ?_
  refine l_nil ?_
  refine e_then ?_
  refine c_keep [0, 3, 4, 7, 51] (.cons rfl (.cons rfl (.cons rfl (.cons rfl (.cons rfl .nil))))) ?_
  refine c_cond_f rfl rfl ?_
  refine c_skip ?_
  refine e_then ?_
  refine c_keep [0, 3, 4, 7] (.cons rfl (.cons rfl (.cons rfl (.cons rfl .nil)))) ?_
  refine c_seq ?_
  refine c_region ?_
  have hw7 := St.del .head hw6
  try clear hw6
  have hw8 := St.del .head hw7
  try clear hw7
  refine l_buildS rfl rfl pl55 ta55 .nil ?_
  refine l_box hw8 rfl rfl rfl (fun b8_1 w9 hw9 => ?_)
  try clear hw8
  refine l_assign rfl rfl rfl ?_
  refine l_nil ?_
  refine e_then ?_
  refine c_keep [0, 3, 4, 7, 13] (.cons rfl (.cons rfl (.cons rfl (.cons rfl (.cons rfl .nil))))) ?_
  refine c_seq ?_
  refine c_region ?_
  have hB0 := Bk.nil
  have hw10 := (((bag_nil (E := 25) (bag_nil (E := 25) hw9)).nil 42).nil 42).front4
  try clear hw9
  refine l_move rfl rfl rfl ?_
  have hw11 := St.frontL (l := [_, _, _, _, _, _]) hw10
  simp only [List.cons_append, List.nil_append] at hw11
  try clear hw10
  have hw12 := St.frontL (l := [_, _, _, _, _]) hw11
  simp only [List.cons_append, List.nil_append] at hw12
  try clear hw11
  have hw13 := St.frontL (l := [_, _, _, _, _]) hw12
  simp only [List.cons_append, List.nil_append] at hw13
  try clear hw12
  have hw14 := St.frontL (l := [_, _, _, _, _]) hw13
  simp only [List.cons_append, List.nil_append] at hw14
  try clear hw13
  have hw15 := St.frontL (l := [_, _, _, _, _]) hw14
  simp only [List.cons_append, List.nil_append] at hw15
  try clear hw14
  have hw16 := St.frontL (l := [_, _, _, _, _]) hw15
  simp only [List.cons_append, List.nil_append] at hw16
  try clear hw15
  refine l_move rfl rfl rfl ?_
  refine l_call rfl rfl Try.func21 rfl rfl (.cons rfl (.cons rfl .nil)) (addB b8_1 (.slice none 0 0) (.slice none 0 0) vn1 [] [] ln1 (cnU hcn1) (by omega) hB0 (by first | (simp; done) | omega) w9 (St.rows (τ := book b8_1 (.slice none 0 0) (.slice none 0 0) [] [] ++ [As.ri 25 .u64 vn1 ln1]) (σ := _) hw16)) ?_
  rintro _ w17 ⟨vw1, vm1, an1, cp1, rfl, hB1, hbl1, hin1, hX⟩
  have hw17 := hX _ _ _ _ hw16
  simp only [book, List.cons_append, List.nil_append] at hw17
  try clear hX hw16
  have hbl1b : an1.length = 1 := by simpa using hbl1
  refine l_nil ?_
  refine e_then ?_
  refine c_keep [0, 3, 7, 13] (.cons rfl (.cons rfl (.cons rfl (.cons rfl .nil)))) ?_
  refine c_seq ?_
  refine c_region ?_
  have hw18 := St.frontL (l := [_, _, _, _, _]) hw17
  simp only [List.cons_append, List.nil_append] at hw18
  try clear hw17
  have hw19 := St.frontL (l := [_, _, _, _, _]) hw18
  simp only [List.cons_append, List.nil_append] at hw19
  try clear hw18
  have hw20 := St.frontL (l := [_, _, _, _, _]) hw19
  simp only [List.cons_append, List.nil_append] at hw20
  try clear hw19
  have hw21 := St.frontL (l := [_, _, _, _, _]) hw20
  simp only [List.cons_append, List.nil_append] at hw21
  try clear hw20
  have hw22 := St.frontL (l := [_, _, _, _, _]) hw21
  simp only [List.cons_append, List.nil_append] at hw22
  try clear hw21
  have hw23 := St.frontL (l := [_, _, _, _, _]) hw22
  simp only [List.cons_append, List.nil_append] at hw23
  try clear hw22
  refine l_move rfl rfl rfl ?_
  refine l_move rfl rfl rfl ?_
  refine l_call rfl rfl Try.func21 rfl rfl (.cons rfl (.cons rfl .nil)) (addB b8_1 vw1 vm1 vn2 an1 cp1 ln2 (cnU hcn2) (by omega) hB1 (by first | (simp; done) | omega) w17 (St.rows (τ := book b8_1 vw1 vm1 an1 cp1 ++ [As.ri 25 .u64 vn2 ln2]) (σ := _) hw23)) ?_
  rintro _ w24 ⟨vw2, vm2, an2, cp2, rfl, hB2, hbl2, hin2, hX⟩
  have hw24 := hX _ _ _ _ hw23
  simp only [book, List.cons_append, List.nil_append] at hw24
  try clear hX hw23
  refine l_nil ?_
  refine e_then ?_
  refine c_keep [0, 3, 13] (.cons rfl (.cons rfl (.cons rfl .nil))) ?_
  refine c_seq ?_
  refine c_region ?_
  refine l_move rfl rfl rfl ?_
  refine l_call rfl rfl Try.func22 rfl rfl (.cons rfl .nil) (bookClose b8_1 vw2 vm2 an2 cp2 (by omega) hB2.1 (fun i hi => (hB2.2 i hi).1) (fun i hi => (hB2.2 i hi).2.1) (fun i hi => (hB2.2 i hi).2.2) w24 (St.rows (τ := book b8_1 vw2 vm2 an2 cp2) (σ := _) hw24)) ?_
  rintro _ w25 ⟨rfl, hX⟩
  have hw25 := hX _ _ _ _ hw24
  simp only [List.nil_append] at hw25
  try clear hX hw24
  refine l_turn (s := 61) (v' := .bool true) rfl (by rfl) ?_
  refine l_move rfl rfl rfl ?_
  refine l_move rfl rfl rfl ?_
  refine l_move rfl rfl rfl ?_
  refine l_call rfl rfl Try.func14 rfl rfl (.cons rfl (.cons rfl .nil)) (backB ad c va t (by omega) w25 (hw25.ok mem0) (hw25.rowlt mem0) (hw25.keepsArg mem0 hv1)) ?_
  rintro _ w26 ⟨rfl, lo, hT⟩
  have hw26 := hT _ _ _ _ _ .head hw25
  try clear hT hw25
  refine l_turn (s := 65) (v' := .bool true) rfl (by rfl) ?_
  refine l_pick_t rfl rfl rfl rfl ?_
  refine l_move rfl rfl rfl ?_
  refine l_call rfl rfl Try.func15 rfl rfl .nil (wakesL w26) ?_
  rintro _ w27 ⟨rfl, hG⟩
  have hw27 := hG _ _ _ _ hw26
  try clear hG hw26
  simp only [List.cons_append, List.nil_append] at hw27
  refine l_turn (s := 68) (v' := .bool true) rfl (by rfl) ?_
  refine l_pick_t rfl rfl rfl rfl ?_
  refine l_assign rfl rfl rfl ?_
  refine l_nil ?_
  refine e_then ?_
  refine c_keep [2] (.cons rfl .nil) ?_
  refine c_ret ?_
  refine e_done1 Try.results7 rfl ?_
  refine ⟨_, rfl, ?_⟩
  have hw28 := St.del .head hw27
  try clear hw27
  exact ⟨rfl, hw28.grows⟩
end Go.Proofs.Ytjkaahnadaapoaa.W
