/- walk of mintagelaw02.NatOver -/
import Derived.Test.YtnddfmjmeghkjaaLo
import Derived.Test.YtnddfmjmeghkjaaLb
import Derived.Test.YtnddfmjmeghkjaaRf
set_option linter.unusedVariables false
set_option linter.unusedSimpArgs false
set_option maxRecDepth 10000
namespace Go.Proofs.Ytnddfmjmeghkjaa.W
open Go.Vc Go.RowKit

theorem bl_divq {a b : Int} (ha : 0 ≤ a) : Ma.blen (divS a b).2.1 ≤ (8960 : Nat) := by
  unfold divS
  split
  · simp [Ma.blen_zero]
  · split
    · simp [Ma.blen_zero]
    · rename_i h1 h2
      have h3 : a / b ≤ a := Int.ediv_le_self _ ha
      rcases Int.lt_or_le (a / b) 0 with h4 | h4
      · have : Ma.blen (a / b) = 0 := by unfold Ma.blen; rw [if_pos (by omega)]
        show Ma.blen (a / b) ≤ _
        omega
      · have := Ma.blen_mono h4 h3
        show Ma.blen (a / b) ≤ _
        omega
theorem bl_divr {a b : Int} (hb : 0 ≤ b) : Ma.blen (divS a b).2.2 ≤ (8960 : Nat) := by
  unfold divS
  split
  · simp [Ma.blen_zero]
  · split
    · simp [Ma.blen_zero]
    · rename_i h1 h2
      have h3 := Int.emod_lt_of_pos a (show 0 < b by omega)
      have h4 := Int.emod_nonneg a (show b ≠ 0 by omega)
      have := Ma.blen_mono h4 (Int.le_of_lt h3)
      show Ma.blen (a % b) ≤ _
      omega

theorem natOverL (a b : Value) (la lb : List Int) (hUa : U la) (hUb : U lb) (w : World) (ha : IV w a (ints .u64 la)) (hb : IV w b (ints .u64 lb)) :
    CallsV P 7 [a, b] w fun r w' => r = .bool true ∧ Grow w w' [] := by
  refine enterW Try.func7 rfl Try.ntmps7 rfl ?_
  have hw0 := St.start w
  refine c_seq ?_
  refine c_region ?_
  refine l_assign rfl rfl rfl ?_
  refine l_nil ?_
  refine e_then ?_
  refine c_keep [0, 1] (.cons rfl (.cons rfl .nil)) ?_
  refine c_seq ?_
  refine c_region ?_
  refine l_move rfl rfl rfl ?_
  refine l_call rfl rfl Try.func20 rfl rfl (.cons rfl .nil) (cutL a la w ha) ?_
  rintro va _ ⟨hv1, rfl⟩
  have hma0 : U (la.take 140) := fun x hx => hUa x (List.mem_of_mem_take hx)
  have lma0 : (la.take 140).length ≤ 140 := by rw [List.length_take]; omega
  generalize hmae : la.take 140 = ma at hv1 hma0 lma0
  have hma : U ma := hma0
  have lma : ma.length ≤ 140 := lma0
  refine l_move rfl rfl rfl ?_
  refine l_call rfl rfl Try.func20 rfl rfl (.cons rfl .nil) (cutL b lb w hb) ?_
  rintro vb _ ⟨hv2, rfl⟩
  have hmb0 : U (lb.take 140) := fun x hx => hUb x (List.mem_of_mem_take hx)
  have lmb0 : (lb.take 140).length ≤ 140 := by rw [List.length_take]; omega
  generalize hmbe : lb.take 140 = mb at hv2 hmb0 lmb0
  have hmb : U mb := hmb0
  have lmb : mb.length ≤ 140 := lmb0
  refine l_assign rfl rfl rfl ?_
  refine l_assign rfl rfl rfl ?_
  refine l_nil ?_
  refine e_then ?_
  refine c_keep [0, 1] (.cons rfl (.cons rfl .nil)) ?_
  refine c_seq ?_
  refine c_region ?_
  refine l_move rfl rfl rfl ?_
  refine l_call rfl rfl Try.func25 rfl rfl (.cons rfl .nil) (lendW _ ma hma (by omega) w (hw0.iarg hv1)) ?_
  rintro _ w1 ⟨Ax, cx, rfl, hG⟩
  have hw1 := hG _ _ _ _ hw0
  try clear hG hw0
  simp only [List.cons_append, List.nil_append] at hw1
  obtain ⟨adx, rfl⟩ := some_ok (hw1.ok mem0)
  refine l_move rfl rfl rfl ?_
  refine l_call rfl rfl Try.func25 rfl rfl (.cons rfl .nil) (lendW _ mb hmb (by omega) w1 (hw1.iarg hv2)) ?_
  rintro _ w2 ⟨Ay, cy, rfl, hG⟩
  have hw2 := hG _ _ _ _ hw1
  try clear hG hw1
  simp only [List.cons_append, List.nil_append] at hw2
  obtain ⟨ady, rfl⟩ := some_ok (hw2.ok mem0)
  refine l_assign rfl rfl rfl ?_
  refine l_assign rfl rfl rfl ?_
  refine l_nil ?_
  refine e_then ?_
  refine c_keep [0, 1, 5, 6] (.cons rfl (.cons rfl (.cons rfl (.cons rfl .nil)))) ?_
  refine c_seq ?_
  refine c_region ?_
  refine l_move rfl rfl rfl ?_
  refine l_move rfl rfl rfl ?_
  refine l_call rfl rfl Try.func34 rfl rfl (.cons rfl (.cons rfl .nil)) (divModN _ _ ma mb hma hmb (by omega) (by omega) w2 (head_ok (hw2.ok mem1)) (head_ok (hw2.ok mem0))) ?_
  rintro _ w3 ⟨vq, vr, lq, lr, rfl, hq, hr, hG⟩
  have hw3 := hG _ _ _ _ hw2
  try clear hG hw2
  simp only [List.cons_append, List.nil_append] at hw3
  refine l_move rfl rfl rfl ?_
  refine l_extract rfl rfl rfl rfl ?_
  refine l_extract rfl rfl rfl rfl ?_
  refine l_extract rfl rfl rfl rfl ?_
  refine l_assign rfl rfl rfl ?_
  refine l_assign rfl rfl rfl ?_
  refine l_assign rfl rfl rfl ?_
  refine l_nil ?_
  refine e_then ?_
  refine c_keep [0, 1, 5, 6, 7, 8, 9] (.cons rfl (.cons rfl (.cons rfl (.cons rfl (.cons rfl (.cons rfl (.cons rfl .nil))))))) ?_
  refine c_seq ?_
  refine c_region ?_
  refine l_move rfl rfl rfl ?_
  refine l_move rfl rfl rfl ?_
  refine l_call rfl rfl Try.func35 rfl rfl (.cons rfl (.cons rfl .nil)) (divModR2 va vb ma mb hma hmb (by omega) (by omega) w3 (hw3.iarg hv1) (hw3.iarg hv2)) ?_
  rintro _ w4 ⟨vp, vs, lp, ls, rfl, hp, hs, hG⟩
  have hw4 := hG _ _ _ _ hw3
  try clear hG hw3
  simp only [List.cons_append, List.nil_append] at hw4
  refine l_move rfl rfl rfl ?_
  refine l_extract rfl rfl rfl rfl ?_
  refine l_extract rfl rfl rfl rfl ?_
  refine l_extract rfl rfl rfl rfl ?_
  refine l_assign rfl rfl rfl ?_
  refine l_assign rfl rfl rfl ?_
  refine l_assign rfl rfl rfl ?_
  refine l_nil ?_
  refine e_then ?_
  refine c_keep [0, 1, 5, 6, 7, 8, 9, 10, 11, 12] (.cons rfl (.cons rfl (.cons rfl (.cons rfl (.cons rfl (.cons rfl (.cons rfl (.cons rfl (.cons rfl (.cons rfl .nil)))))))))) ?_
  refine c_seq ?_
  refine c_seq ?_
  refine c_region ?_
  have llq := cn_len hq (k := 8960) (bl_divq hma.nv_nonneg)
  have llp := cn_len hp (k := 8960) (bl_divq hma.nv_nonneg)
  have llr := cn_len hr (k := 8960) (bl_divr hmb.nv_nonneg)
  have lls := cn_len hs (k := 8960) (bl_divr hmb.nv_nonneg)
  refine l_move rfl rfl rfl ?_
  refine l_callp rfl rfl Try.func12 rfl rfl (.cons rfl .nil) (numL _ _) ?_
  refine l_move rfl rfl rfl ?_
  refine l_neq rfl rfl rfl rfl ?_
  refine l_turn (s := 39) (v' := .bool false) rfl (by simp) ?_
  refine l_move rfl rfl rfl ?_
  refine l_move rfl rfl rfl ?_
  refine l_move rfl rfl rfl ?_
  refine l_call rfl rfl Try.func13 rfl rfl (.cons rfl (.cons rfl .nil)) (wordsK _ _ lq lp (cnU hq) (cnU hp) (by omega) (by omega) w4 (hw4.io mem2) (hw4.io mem0)) ?_
  rintro _ w5 ⟨rfl, hG⟩
  have hw5 := hG _ _ _ _ hw4
  try clear hG hw4
  simp only [List.cons_append, List.nil_append] at hw5
  refine l_turn (s := 43) (v' := .bool true) rfl (by rw [decide_eq_true (hq.eq (by omega) hp)]) ?_
  first | refine l_notd rfl rfl rfl ?_ | refine l_not rfl rfl rfl ?_
  refine l_turn (s := 44) (v' := .bool false) rfl (by rfl) ?_
  refine l_pick_f rfl rfl rfl rfl ?_
  refine l_move rfl rfl rfl ?_
  refine l_move rfl rfl rfl ?_
  refine l_move rfl rfl rfl ?_
  refine l_call rfl rfl Try.func13 rfl rfl (.cons rfl (.cons rfl .nil)) (wordsK _ _ lr ls (cnU hr) (cnU hs) (by omega) (by omega) w5 (hw5.io mem3) (hw5.io mem1)) ?_
  rintro _ w6 ⟨rfl, hG⟩
  have hw6 := hG _ _ _ _ hw5
  try clear hG hw5
  simp only [List.cons_append, List.nil_append] at hw6
  refine l_turn (s := 49) (v' := .bool true) rfl (by rw [decide_eq_true (hr.eq (by omega) hs)]) ?_
  first | refine l_notd rfl rfl rfl ?_ | refine l_not rfl rfl rfl ?_
  refine l_turn (s := 50) (v' := .bool false) rfl (by rfl) ?_
  refine l_pick_f rfl rfl rfl rfl ?_
  refine l_nil ?_
  refine e_then ?_
  refine c_keep [0, 1, 5, 6, 7, 8, 51] (.cons rfl (.cons rfl (.cons rfl (.cons rfl (.cons rfl (.cons rfl (.cons rfl .nil))))))) ?_
  refine c_cond_f rfl rfl ?_
  refine c_skip ?_
  refine e_then ?_
  refine c_keep [0, 1, 5, 6, 7, 8] (.cons rfl (.cons rfl (.cons rfl (.cons rfl (.cons rfl (.cons rfl .nil)))))) ?_
  refine c_seq ?_
  refine c_region ?_
  have hw7 := St.del .head hw6
  try clear hw6
  have hw8 := St.del .head hw7
  try clear hw7
  refine l_buildS rfl rfl pl51 ta51 .nil ?_
  refine l_box hw8 rfl rfl rfl (fun b7_1 w9 hw9 => ?_)
  try clear hw8
  refine l_assign rfl rfl rfl ?_
  refine l_nil ?_
  refine e_then ?_
  refine c_keep [0, 1, 5, 6, 7, 8, 13] (.cons rfl (.cons rfl (.cons rfl (.cons rfl (.cons rfl (.cons rfl (.cons rfl .nil))))))) ?_
  refine c_seq ?_
  refine c_region ?_
  have hw10 := (((bag_nil (E := 22) (bag_nil (E := 22) hw9)).nil 25).nil 25).front4
  try clear hw9
  refine l_move rfl rfl rfl ?_
  have hw11 := St.frontL (l := [_, _, _, _, _]) hw10
  simp only [List.cons_append, List.nil_append] at hw11
  try clear hw10
  have hw12 := St.frontL (l := [_, _, _, _, _]) hw11
  simp only [List.cons_append, List.nil_append] at hw12
  try clear hw11
  have hw13 := St.frontL (l := [_, _, _, _, _]) hw12
  simp only [List.cons_append, List.nil_append] at hw13
  try clear hw12
  have hw14 := St.frontL (l := [_, _, _, _, _]) hw13
  simp only [List.cons_append, List.nil_append] at hw14
  try clear hw13
  have hw15 := St.frontL (l := [_, _, _, _, _]) hw14
  simp only [List.cons_append, List.nil_append] at hw15
  try clear hw14
  have hw16 := St.frontL (l := [_, _, _, _, _]) hw15
  simp only [List.cons_append, List.nil_append] at hw16
  try clear hw15
  refine l_move rfl rfl rfl ?_
  refine l_call rfl rfl Try.func36 rfl rfl (.cons rfl (.cons rfl .nil)) (addB b7_1 (.slice none 0 0) (.slice none 0 0) vq [] [] lq (cnU hq) (by omega) Bk.nil (by simp) w9 (St.rows (τ := book b7_1 (.slice none 0 0) (.slice none 0 0) [] [] ++ [As.ri 22 .u64 vq lq]) (σ := _) hw16)) ?_
  rintro _ w17 ⟨vw1, vm1, an1, cp1, rfl, hB1, hbl1, hin1, hX⟩
  have hw17 := hX _ _ _ _ hw16
  simp only [book, List.cons_append, List.nil_append] at hw17
  try clear hX hw16
  have hbl1b : an1.length = 1 := by simpa using hbl1
  refine l_nil ?_
  refine e_then ?_
  refine c_keep [0, 1, 5, 6, 8, 13] (.cons rfl (.cons rfl (.cons rfl (.cons rfl (.cons rfl (.cons rfl .nil)))))) ?_
  refine c_seq ?_
  refine c_region ?_
  refine l_move rfl rfl rfl ?_
  have hw18 := St.frontL (l := [_, _, _, _, _]) hw17
  simp only [List.cons_append, List.nil_append] at hw18
  try clear hw17
  have hw19 := St.frontL (l := [_, _, _, _, _]) hw18
  simp only [List.cons_append, List.nil_append] at hw19
  try clear hw18
  have hw20 := St.frontL (l := [_, _, _, _, _]) hw19
  simp only [List.cons_append, List.nil_append] at hw20
  try clear hw19
  have hw21 := St.frontL (l := [_, _, _, _, _]) hw20
  simp only [List.cons_append, List.nil_append] at hw21
  try clear hw20
  have hw22 := St.frontL (l := [_, _, _, _, _]) hw21
  simp only [List.cons_append, List.nil_append] at hw22
  try clear hw21
  have hw23 := St.frontL (l := [_, _, _, _, _]) hw22
  simp only [List.cons_append, List.nil_append] at hw23
  try clear hw22
  refine l_move rfl rfl rfl ?_
  refine l_call rfl rfl Try.func36 rfl rfl (.cons rfl (.cons rfl .nil)) (addB b7_1 vw1 vm1 vr an1 cp1 lr (cnU hr) (by omega) hB1 (by omega) w17 (St.rows (τ := book b7_1 vw1 vm1 an1 cp1 ++ [As.ri 22 .u64 vr lr]) (σ := _) hw23)) ?_
  rintro _ w24 ⟨vw2, vm2, an2, cp2, rfl, hB2, hbl2, hin2, hX⟩
  have hw24 := hX _ _ _ _ hw23
  simp only [book, List.cons_append, List.nil_append] at hw24
  try clear hX hw23
  refine l_nil ?_
  refine e_then ?_
  refine c_keep [0, 1, 5, 6, 13] (.cons rfl (.cons rfl (.cons rfl (.cons rfl (.cons rfl .nil))))) ?_
  refine c_seq ?_
  refine c_region ?_
  refine l_move rfl rfl rfl ?_
  refine l_move rfl rfl rfl ?_
  refine l_call rfl rfl Try.func27 rfl rfl (.cons rfl (.cons rfl .nil)) (backW adx cx va ma hma (by omega) w24 (hw24.ok mem6) (hw24.rowlt mem6) (hw24.keepsArg mem6 hv1)) ?_
  rintro _ w25 ⟨rfl, lox, hT⟩
  have hw25 := hT _ _ _ _ _ (.tail (.tail (.tail (.tail (.tail (.tail .head)))))) hw24
  try clear hT hw24
  refine l_turn (s := 62) (v' := .bool true) rfl (by rfl) ?_
  refine l_move rfl rfl rfl ?_
  refine l_move rfl rfl rfl ?_
  refine l_move rfl rfl rfl ?_
  refine l_call rfl rfl Try.func27 rfl rfl (.cons rfl (.cons rfl .nil)) (backW ady cy vb mb hmb (by omega) w25 (hw25.ok mem5) (hw25.rowlt mem5) (hw25.keepsArg mem5 hv2)) ?_
  rintro _ w26 ⟨rfl, loy, hT⟩
  have hw26 := hT _ _ _ _ _ (.tail (.tail (.tail (.tail (.tail .head))))) hw25
  try clear hT hw25
  refine l_turn (s := 66) (v' := .bool true) rfl (by rfl) ?_
  refine l_pick_t rfl rfl rfl rfl ?_
  refine l_move rfl rfl rfl ?_
  have hw27 := St.frontL (l := [_, _, _, _]) hw26
  simp only [List.cons_append, List.nil_append] at hw27
  try clear hw26
  have hw28 := St.frontL (l := [_, _, _, _]) hw27
  simp only [List.cons_append, List.nil_append] at hw28
  try clear hw27
  have hw29 := St.frontL (l := [_, _, _, _]) hw28
  simp only [List.cons_append, List.nil_append] at hw29
  try clear hw28
  have hw30 := St.frontL (l := [_, _, _, _]) hw29
  simp only [List.cons_append, List.nil_append] at hw30
  try clear hw29
  have hw31 := St.frontL (l := [_, _, _, _]) hw30
  simp only [List.cons_append, List.nil_append] at hw31
  try clear hw30
  refine l_move rfl rfl rfl ?_
  refine l_call rfl rfl Try.func28 rfl rfl (.cons rfl .nil) (bookClose b7_1 vw2 vm2 an2 cp2 (by omega) hB2.1 (fun i hi => (hB2.2 i hi).1) (fun i hi => (hB2.2 i hi).2.1) (fun i hi => (hB2.2 i hi).2.2) w26 (St.rows (τ := book b7_1 vw2 vm2 an2 cp2) (σ := _) hw31)) ?_
  rintro _ w32 ⟨rfl, hX⟩
  have hw32 := hX _ _ _ _ hw31
  simp only [List.nil_append] at hw32
  try clear hX hw31
  refine l_turn (s := 70) (v' := .bool true) rfl (by rfl) ?_
  refine l_pick_t rfl rfl rfl rfl ?_
  refine l_move rfl rfl rfl ?_
  refine l_call rfl rfl Try.func19 rfl rfl .nil (wakesL w32) ?_
  rintro _ w33 ⟨rfl, hG⟩
  have hw33 := hG _ _ _ _ hw32
  try clear hG hw32
  simp only [List.cons_append, List.nil_append] at hw33
  refine l_turn (s := 73) (v' := .bool true) rfl (by rfl) ?_
  refine l_pick_t rfl rfl rfl rfl ?_
  refine l_assign rfl rfl rfl ?_
  refine l_nil ?_
  refine e_then ?_
  refine c_keep [4] (.cons rfl .nil) ?_
  refine c_ret ?_
  refine e_done1 Try.results7 rfl ?_
  refine ⟨_, rfl, ?_⟩
  have hw34 := St.del (.tail .head) hw33
  try clear hw33
  have hw35 := St.del .head hw34
  try clear hw34
  exact ⟨rfl, hw35.grows⟩
end Go.Proofs.Ytnddfmjmeghkjaa.W
