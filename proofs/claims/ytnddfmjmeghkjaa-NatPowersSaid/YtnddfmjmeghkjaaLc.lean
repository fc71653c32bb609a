/- walk of NatPowers -/
import Derived.Test.YtnddfmjmeghkjaaLb
import Derived.Test.YtnddfmjmeghkjaaFj
set_option linter.unusedVariables false
set_option linter.unusedSimpArgs false
set_option maxRecDepth 10000
namespace Go.Proofs.Ytnddfmjmeghkjaa.W
open Go.Vc Go.RowKit

theorem powS_blen (b n : Int) : Ma.blen (powS b n).2 ≤ 8192 := by
  unfold powS
  split
  · decide
  · split
    · decide
    · show Ma.blen (b ^ n.toNat) ≤ 8192
      omega

theorem natPowersL (hi lo : Int) (hhi : 0 ≤ hi ∧ hi ≤ 18446744073709551615) (hlo : 0 ≤ lo ∧ lo ≤ 18446744073709551615) (n : Int) (hn : -9223372036854775808 ≤ n ∧ n ≤ 9223372036854775807) (w : World) :
    CallsV P 3 [.agg #[.int .u64 hi, .int .u64 lo], .int .i64 n] w fun r w' => r = .bool true ∧ Grow w w' [] := by
  refine enterW Try.func3 rfl Try.ntmps3 rfl ?_
  have hw0 := St.start w
  refine c_seq ?_
  refine c_region ?_
  refine l_box hw0 rfl rfl rfl (fun b0_0 w1 hw1 => ?_)
  clear hw0
  refine l_assign rfl rfl rfl ?_
  refine l_nil ?_
  refine e_then ?_
  refine c_keep [1, 2] (.cons rfl (.cons rfl .nil)) ?_
  refine c_seq ?_
  refine c_region ?_
  refine l_field fo24_1 rfl rfl rfl ?_
  refine l_load_blk hw1 mem0 rfl rfl Try.underlying22 rfl rfl rfl ?_
  refine l_move rfl rfl rfl ?_
  refine l_call rfl rfl Try.func10 rfl rfl (.cons rfl (.cons rfl .nil)) (powN lo n hlo hn w1) ?_
  rintro _ w2 ⟨vp, lp, rfl, hcp, hG⟩
  have hw2 := hG _ _ _ _ hw1
  clear hG hw1
  simp only [List.cons_append, List.nil_append] at hw2
  refine l_move rfl rfl rfl ?_
  refine l_extract rfl rfl rfl rfl ?_
  refine l_extract rfl rfl rfl rfl ?_
  refine l_assign rfl rfl rfl ?_
  refine l_assign rfl rfl rfl ?_
  refine l_nil ?_
  refine e_then ?_
  refine c_keep [1, 2, 5, 6] (.cons rfl (.cons rfl (.cons rfl (.cons rfl .nil)))) ?_
  refine c_seq ?_
  refine c_region ?_
  refine l_field fo24_1 rfl rfl rfl ?_
  refine l_load_blk hw2 mem1 rfl rfl Try.underlying22 rfl rfl rfl ?_
  refine l_move rfl rfl rfl ?_
  refine l_call rfl rfl Try.func11 rfl rfl (.cons rfl (.cons rfl .nil)) (powR lo n hlo hn w2) ?_
  rintro _ w3 ⟨vq, lq, rfl, hcq, hG⟩
  have hw3 := hG _ _ _ _ hw2
  clear hG hw2
  simp only [List.cons_append, List.nil_append] at hw3
  refine l_move rfl rfl rfl ?_
  refine l_extract rfl rfl rfl rfl ?_
  refine l_extract rfl rfl rfl rfl ?_
  refine l_assign rfl rfl rfl ?_
  refine l_assign rfl rfl rfl ?_
  refine l_nil ?_
  refine e_then ?_
  refine c_keep [1, 2, 5, 6, 7, 8] (.cons rfl (.cons rfl (.cons rfl (.cons rfl (.cons rfl (.cons rfl .nil)))))) ?_
  refine c_seq ?_
  refine c_region ?_
  refine l_field fo24_0 rfl rfl rfl ?_
  refine l_load_blk hw3 mem2 rfl rfl Try.underlying22 rfl rfl rfl ?_
  refine l_bits rfl rfl rfl rfl rfl (and_mask 3 (d := 8) (by omega) (by omega) (by decide) (by decide)) ?_
  refine l_move rfl rfl rfl ?_
  refine l_call rfl rfl Try.func10 rfl rfl (.cons rfl (.cons rfl .nil)) (powN (hi % 8) n (by omega) hn w3) ?_
  rintro _ w4 ⟨vr, lr, rfl, hcr, hG⟩
  have hw4 := hG _ _ _ _ hw3
  clear hG hw3
  simp only [List.cons_append, List.nil_append] at hw4
  refine l_move rfl rfl rfl ?_
  refine l_extract rfl rfl rfl rfl ?_
  refine l_extract rfl rfl rfl rfl ?_
  refine l_assign rfl rfl rfl ?_
  refine l_assign rfl rfl rfl ?_
  refine l_nil ?_
  refine e_then ?_
  refine c_keep [1, 2, 5, 6, 7, 8, 9, 10] (.cons rfl (.cons rfl (.cons rfl (.cons rfl (.cons rfl (.cons rfl (.cons rfl (.cons rfl .nil)))))))) ?_
  refine c_seq ?_
  refine c_region ?_
  refine l_field fo24_0 rfl rfl rfl ?_
  refine l_load_blk hw4 mem3 rfl rfl Try.underlying22 rfl rfl rfl ?_
  refine l_bits rfl rfl rfl rfl rfl (and_mask 3 (d := 8) (by omega) (by omega) (by decide) (by decide)) ?_
  refine l_move rfl rfl rfl ?_
  refine l_call rfl rfl Try.func11 rfl rfl (.cons rfl (.cons rfl .nil)) (powR (hi % 8) n (by omega) hn w4) ?_
  rintro _ w5 ⟨vs, ls, rfl, hcs, hG⟩
  have hw5 := hG _ _ _ _ hw4
  clear hG hw4
  simp only [List.cons_append, List.nil_append] at hw5
  refine l_move rfl rfl rfl ?_
  refine l_extract rfl rfl rfl rfl ?_
  refine l_extract rfl rfl rfl rfl ?_
  refine l_assign rfl rfl rfl ?_
  refine l_assign rfl rfl rfl ?_
  refine l_nil ?_
  refine e_then ?_
  refine c_keep [2, 5, 6, 7, 8, 9, 10, 11, 12] (.cons rfl (.cons rfl (.cons rfl (.cons rfl (.cons rfl (.cons rfl (.cons rfl (.cons rfl (.cons rfl .nil))))))))) ?_
  refine c_seq ?_
  have hw6 := hw5.drewn
  clear hw5
  have e1 : Ma.vb 18446744073709551616 [lo] = lo := by simp [Ma.vb]
  have hb1 : Ma.blen lo ≤ (64 : Nat) := (Ma.blen_le_iff hlo.1 64).2 (by omega)
  have hb1' : Ma.blen (Ma.vb 18446744073709551616 [lo]) ≤ (64 : Nat) := by rw [e1]; exact hb1
  have hb2 : Ma.blen (lo + 18446744073709551616 * hi) ≤ (128 : Nat) := (Ma.blen_le_iff (by omega) 128).2 (by omega)
  refine c_any (n := 43) [false, false, false, false, false, false, false, false, false, false, false, false, false, false, false, false, false, false, false, false, false, false, false, false, false, false, false, false, false, false, false, false, false, false, false, false, false, false, false, false, false, false, false] (fun wS => (As.blk b0_0 24 [.int .u64 hi, .int .u64 lo]).ok wS) (by kernel_rfl) rfl rfl ?_
  apply a_take (L' := [true, false, false, false, false, false, false, false, false, false, false, false, false, false, false, false, false, false, false, false, false, false, false, false, false, false, false, false, false, false, false, false, false, false, false, false, false, false, false, false, false, false, false]) 0 rfl (by kernel_rfl) (by kernel_rfl) (by kernel_rfl) rfl rfl rfl rfl rfl (hw6.ok mem4)
  · intro wS sS
    refine l_move rfl rfl rfl ?_
    refine l_nil ?_
    exact e_got rfl
  apply a_take (L' := [true, false, true, false, false, false, false, false, false, false, false, false, false, false, false, false, false, false, false, false, false, false, false, false, false, false, false, false, false, false, false, false, false, false, false, false, false, false, false, false, false, false, false]) 2 rfl (by kernel_rfl) (by kernel_rfl) (by kernel_rfl) rfl rfl rfl rfl rfl (hw6.ok mem4)
  · intro wS sS
    refine l_move rfl rfl rfl ?_
    refine l_nil ?_
    exact e_got rfl
  refine a_one (L' := [true, true, true, false, false, false, false, false, false, false, false, false, false, false, false, false, false, false, false, false, false, false, false, false, false, false, false, false, false, false, false, false, false, false, false, false, false, false, false, false, false, false, false]) 1 (by kernel_rfl) rfl rfl ?_
  refine l_callp rfl rfl Try.func12 rfl rfl (.cons rfl .nil) (numL _ _) ?_
  refine l_nil ?_
  refine e_any (hw6.ok mem4) ?_
  apply a_take (L' := [true, true, true, true, false, false, false, false, false, false, false, false, false, false, false, false, false, false, false, false, false, false, false, false, false, false, false, false, false, false, false, false, false, false, false, false, false, false, false, false, false, false, false]) 3 rfl (by kernel_rfl) (by kernel_rfl) (by kernel_rfl) rfl rfl rfl rfl rfl (hw6.ok mem4)
  · intro wS sS
    refine l_eql rfl rfl rfl rfl ?_
    refine l_turn (s := 46) (v' := .bool true) rfl (by rw [decide_eq_true rfl]) ?_
    refine l_nil ?_
    exact e_got rfl
  apply a_take (L' := [true, true, true, true, true, false, false, false, false, false, false, false, false, false, false, false, false, false, false, false, false, false, false, false, false, false, false, false, false, false, false, false, false, false, false, false, false, false, false, false, false, false, false]) 4 rfl (by kernel_rfl) (by kernel_rfl) (by kernel_rfl) rfl rfl rfl rfl rfl (hw6.ok mem4)
  · intro wS sS
    refine l_move rfl rfl rfl ?_
    refine l_nil ?_
    exact e_got rfl
  apply a_take (L' := [true, true, true, true, true, true, false, false, false, false, false, false, false, false, false, false, false, false, false, false, false, false, false, false, false, false, false, false, false, false, false, false, false, false, false, false, false, false, false, false, false, false, false]) 5 rfl (by kernel_rfl) (by kernel_rfl) (by kernel_rfl) rfl rfl rfl rfl rfl (hw6.ok mem4)
  · intro wS sS
    refine l_move rfl rfl rfl ?_
    refine l_nil ?_
    exact e_got rfl
  apply a_take (L' := [true, true, true, true, true, true, true, false, false, false, false, false, false, false, false, false, false, false, false, false, false, false, false, false, false, false, false, false, false, false, false, false, false, false, false, false, false, false, false, false, false, false, false]) 6 rfl (by kernel_rfl) (by kernel_rfl) (by kernel_rfl) rfl rfl rfl rfl rfl (hw6.ok mem4)
  · intro wS sS
    refine l_move rfl rfl rfl ?_
    refine l_nil ?_
    exact e_got rfl
  refine a_one (L' := [true, true, true, true, true, true, true, true, false, false, false, false, false, false, false, false, false, false, false, false, false, false, false, false, false, false, false, false, false, false, false, false, false, false, false, false, false, false, false, false, false, false, false]) 7 (by kernel_rfl) rfl rfl ?_
  refine l_call rfl rfl Try.func13 rfl rfl (.cons rfl (.cons rfl .nil)) (wordsK _ _ lp lq (cnU hcp) (cnU hcq) (by have := cn_len hcp (k := 8192) (powS_blen lo n); omega) (by have := cn_len hcq (k := 8192) (powS_blen lo n); omega) w5.drew (hw6.io mem3) (hw6.io mem2)) ?_
  rintro _ w7 ⟨rfl, hG⟩
  have hw7 := hG _ _ _ _ hw6
  clear hG hw6
  simp only [List.cons_append, List.nil_append] at hw7
  refine l_turn (s := 50) (v' := .bool true) rfl (by rw [decide_eq_true (hcp.eq (by omega) hcq)]) ?_
  refine l_nil ?_
  refine e_any (hw7.ok mem4) ?_
  apply a_take (L' := [true, true, true, true, true, true, true, true, true, false, false, false, false, false, false, false, false, false, false, false, false, false, false, false, false, false, false, false, false, false, false, false, false, false, false, false, false, false, false, false, false, false, false]) 8 rfl (by kernel_rfl) (by kernel_rfl) (by kernel_rfl) rfl rfl rfl rfl rfl (hw7.ok mem4)
  · intro wS sS
    refine l_pick_t rfl rfl rfl rfl ?_
    refine l_nil ?_
    exact e_got rfl
  apply a_take (L' := [true, true, true, true, true, true, true, true, true, true, false, false, false, false, false, false, false, false, false, false, false, false, false, false, false, false, false, false, false, false, false, false, false, false, false, false, false, false, false, false, false, false, false]) 9 rfl (by kernel_rfl) (by kernel_rfl) (by kernel_rfl) rfl rfl rfl rfl rfl (hw7.ok mem4)
  · intro wS sS
    refine l_move rfl rfl rfl ?_
    refine l_nil ?_
    exact e_got rfl
  apply a_take (L' := [true, true, true, true, true, true, true, true, true, true, true, false, false, false, false, false, false, false, false, false, false, false, false, false, false, false, false, false, false, false, false, false, false, false, false, false, false, false, false, false, false, false, false]) 10 rfl (by kernel_rfl) (by kernel_rfl) (by kernel_rfl) rfl rfl rfl rfl rfl (hw7.ok mem4)
  · intro wS sS
    refine l_move rfl rfl rfl ?_
    refine l_nil ?_
    exact e_got rfl
  apply a_take (L' := [true, true, true, true, true, true, true, true, true, true, true, false, true, false, false, false, false, false, false, false, false, false, false, false, false, false, false, false, false, false, false, false, false, false, false, false, false, false, false, false, false, false, false]) 12 rfl (by kernel_rfl) (by kernel_rfl) (by kernel_rfl) rfl rfl rfl rfl rfl (hw7.ok mem4)
  · intro wS sS
    refine l_move rfl rfl rfl ?_
    refine l_nil ?_
    exact e_got rfl
  refine a_one (L' := [true, true, true, true, true, true, true, true, true, true, true, true, true, false, false, false, false, false, false, false, false, false, false, false, false, false, false, false, false, false, false, false, false, false, false, false, false, false, false, false, false, false, false]) 11 (by kernel_rfl) rfl rfl ?_
  refine l_callp rfl rfl Try.func12 rfl rfl (.cons rfl .nil) (numL _ _) ?_
  refine l_nil ?_
  refine e_any (hw7.ok mem4) ?_
  apply a_take (L' := [true, true, true, true, true, true, true, true, true, true, true, true, true, true, false, false, false, false, false, false, false, false, false, false, false, false, false, false, false, false, false, false, false, false, false, false, false, false, false, false, false, false, false]) 13 rfl (by kernel_rfl) (by kernel_rfl) (by kernel_rfl) rfl rfl rfl rfl rfl (hw7.ok mem4)
  · intro wS sS
    refine l_eql rfl rfl rfl rfl ?_
    refine l_turn (s := 56) (v' := .bool true) rfl (by rw [decide_eq_true rfl]) ?_
    refine l_nil ?_
    exact e_got rfl
  apply a_take (L' := [true, true, true, true, true, true, true, true, true, true, true, true, true, true, true, false, false, false, false, false, false, false, false, false, false, false, false, false, false, false, false, false, false, false, false, false, false, false, false, false, false, false, false]) 14 rfl (by kernel_rfl) (by kernel_rfl) (by kernel_rfl) rfl rfl rfl rfl rfl (hw7.ok mem4)
  · intro wS sS
    refine l_pick_t rfl rfl rfl rfl ?_
    refine l_nil ?_
    exact e_got rfl
  apply a_take (L' := [true, true, true, true, true, true, true, true, true, true, true, true, true, true, true, true, false, false, false, false, false, false, false, false, false, false, false, false, false, false, false, false, false, false, false, false, false, false, false, false, false, false, false]) 15 rfl (by kernel_rfl) (by kernel_rfl) (by kernel_rfl) rfl rfl rfl rfl rfl (hw7.ok mem4)
  · intro wS sS
    refine l_move rfl rfl rfl ?_
    refine l_nil ?_
    exact e_got rfl
  apply a_take (L' := [true, true, true, true, true, true, true, true, true, true, true, true, true, true, true, true, true, false, false, false, false, false, false, false, false, false, false, false, false, false, false, false, false, false, false, false, false, false, false, false, false, false, false]) 16 rfl (by kernel_rfl) (by kernel_rfl) (by kernel_rfl) rfl rfl rfl rfl rfl (hw7.ok mem4)
  · intro wS sS
    refine l_move rfl rfl rfl ?_
    refine l_nil ?_
    exact e_got rfl
  apply a_take (L' := [true, true, true, true, true, true, true, true, true, true, true, true, true, true, true, true, true, true, false, false, false, false, false, false, false, false, false, false, false, false, false, false, false, false, false, false, false, false, false, false, false, false, false]) 17 rfl (by kernel_rfl) (by kernel_rfl) (by kernel_rfl) rfl rfl rfl rfl rfl (hw7.ok mem4)
  · intro wS sS
    refine l_move rfl rfl rfl ?_
    refine l_nil ?_
    exact e_got rfl
  refine a_one (L' := [true, true, true, true, true, true, true, true, true, true, true, true, true, true, true, true, true, true, true, false, false, false, false, false, false, false, false, false, false, false, false, false, false, false, false, false, false, false, false, false, false, false, false]) 18 (by kernel_rfl) rfl rfl ?_
  refine l_call rfl rfl Try.func13 rfl rfl (.cons rfl (.cons rfl .nil)) (wordsK _ _ lr ls (cnU hcr) (cnU hcs) (by have := cn_len hcr (k := 8192) (powS_blen (hi % 8) n); omega) (by have := cn_len hcs (k := 8192) (powS_blen (hi % 8) n); omega) w7 (hw7.io mem1) (hw7.io mem0)) ?_
  rintro _ w8 ⟨rfl, hG⟩
  have hw8 := hG _ _ _ _ hw7
  clear hG hw7
  simp only [List.cons_append, List.nil_append] at hw8
  refine l_turn (s := 61) (v' := .bool true) rfl (by rw [decide_eq_true (hcr.eq (by omega) hcs)]) ?_
  refine l_nil ?_
  refine e_any (hw8.ok mem4) ?_
  apply a_take (L' := [true, true, true, true, true, true, true, true, true, true, true, true, true, true, true, true, true, true, true, true, false, false, false, false, false, false, false, false, false, false, false, false, false, false, false, false, false, false, false, false, false, false, false]) 19 rfl (by kernel_rfl) (by kernel_rfl) (by kernel_rfl) rfl rfl rfl rfl rfl (hw8.ok mem4)
  · intro wS sS
    refine l_pick_t rfl rfl rfl rfl ?_
    refine l_nil ?_
    exact e_got rfl
  apply a_take (L' := [true, true, true, true, true, true, true, true, true, true, true, true, true, true, true, true, true, true, true, true, true, false, false, false, false, false, false, false, false, false, false, false, false, false, false, false, false, false, false, false, false, false, false]) 20 rfl (by kernel_rfl) (by kernel_rfl) (by kernel_rfl) rfl rfl rfl rfl rfl (hw8.ok mem4)
  · intro wS sS
    refine l_move rfl rfl rfl ?_
    refine l_nil ?_
    exact e_got rfl
  apply a_take (L' := [true, true, true, true, true, true, true, true, true, true, true, true, true, true, true, true, true, true, true, true, true, true, false, false, false, false, false, false, false, false, false, false, false, false, false, false, false, false, false, false, false, false, false]) 21 rfl (by kernel_rfl) (by kernel_rfl) (by kernel_rfl) rfl rfl rfl rfl rfl (hw8.ok mem4)
  · intro wS sS
    refine l_field fo24_1 rfl rfl rfl ?_
    refine l_nil ?_
    exact e_got rfl
  apply a_take (L' := [true, true, true, true, true, true, true, true, true, true, true, true, true, true, true, true, true, true, true, true, true, true, true, false, false, false, false, false, false, false, false, false, false, false, false, false, false, false, false, false, false, false, false]) 22 rfl (by kernel_rfl) (by kernel_rfl) (by kernel_rfl) rfl rfl rfl rfl rfl (hw8.ok mem4)
  · intro wS sS
    refine l_load_blk (blk_st sS) mem0 rfl rfl Try.underlying22 rfl rfl rfl ?_
    refine l_nil ?_
    exact e_got rfl
  apply a_take (L' := [true, true, true, true, true, true, true, true, true, true, true, true, true, true, true, true, true, true, true, true, true, true, true, false, true, false, false, false, false, false, false, false, false, false, false, false, false, false, false, false, false, false, false]) 24 rfl (by kernel_rfl) (by kernel_rfl) (by kernel_rfl) rfl rfl rfl rfl rfl (hw8.ok mem4)
  · intro wS sS
    refine l_field fo24_1 rfl rfl rfl ?_
    refine l_nil ?_
    exact e_got rfl
  apply a_take (L' := [true, true, true, true, true, true, true, true, true, true, true, true, true, true, true, true, true, true, true, true, true, true, true, false, true, true, false, false, false, false, false, false, false, false, false, false, false, false, false, false, false, false, false]) 25 rfl (by kernel_rfl) (by kernel_rfl) (by kernel_rfl) rfl rfl rfl rfl rfl (hw8.ok mem4)
  · intro wS sS
    refine l_load_blk (blk_st sS) mem0 rfl rfl Try.underlying22 rfl rfl rfl ?_
    refine l_nil ?_
    exact e_got rfl
  refine a_two (L' := [true, true, true, true, true, true, true, true, true, true, true, true, true, true, true, true, true, true, true, true, true, true, true, true, true, true, false, false, false, false, false, false, false, false, false, false, false, false, false, false, false, false, false]) (L'' := [true, true, true, true, true, true, true, true, true, true, true, true, true, true, true, true, true, true, true, true, true, true, true, false, true, true, true, false, false, false, false, false, false, false, false, false, false, false, false, false, false, false, false]) 23 26 (by kernel_rfl) rfl rfl rfl rfl ?_ ?_
  · skip
    refine l_call rfl rfl Try.func14 rfl rfl (.cons rfl .nil) (ofN lo hlo w8) ?_
    rintro vo w9 ⟨_, lo1, rfl, hco, hG⟩
    have hw9 := hG _ _ _ _ hw8
    clear hG hw8
    simp only [List.cons_append, List.nil_append] at hw9
    refine l_nil ?_
    refine e_any (hw9.ok mem5) ?_
    refine a_one (L' := [true, true, true, true, true, true, true, true, true, true, true, true, true, true, true, true, true, true, true, true, true, true, true, true, true, true, true, false, false, false, false, false, false, false, false, false, false, false, false, false, false, false, false]) 26 (by kernel_rfl) rfl rfl ?_
    refine v_lit hw9 rfl rfl Try.underlying25 ti22 rfl (.cons rfl rfl .nil) rfl rfl rfl (fun b5_26 w10 hw10 => ?_)
    clear hw9
    refine l_nil ?_
    refine e_any (hw10.ok mem6) ?_
    refine a_one (L' := [true, true, true, true, true, true, true, true, true, true, true, true, true, true, true, true, true, true, true, true, true, true, true, true, true, true, true, true, false, false, false, false, false, false, false, false, false, false, false, false, false, false, false]) 27 (by kernel_rfl) rfl rfl ?_
    refine l_call rfl rfl Try.func16 rfl rfl (.cons rfl .nil) (numR _ [lo] (U.one hlo) (by simp) w10 (hw10.ibl mem0)) ?_
    rintro vn w11 ⟨_, ln, rfl, hRn, hG⟩
    have hw11 := hG _ _ _ _ hw10
    clear hG hw10
    simp only [List.cons_append, List.nil_append] at hw11
    refine l_nil ?_
    refine e_any (hw11.ok mem7) ?_
    refine a_one (L' := [true, true, true, true, true, true, true, true, true, true, true, true, true, true, true, true, true, true, true, true, true, true, true, true, true, true, true, true, true, false, false, false, false, false, false, false, false, false, false, false, false, false, false]) 28 (by kernel_rfl) rfl rfl ?_
    refine l_call rfl rfl Try.func15 rfl rfl (.cons rfl .nil) (wordsR vn ln _ hRn (by have := R16.len_num (U.one hlo) hRn; simp at this; omega) w11 (hw11.io mem0)) ?_
    rintro vw w12 ⟨_, lw, rfl, hcw, hG⟩
    have hw12 := hG _ _ _ _ hw11
    clear hG hw11
    simp only [List.cons_append, List.nil_append] at hw12
    refine l_nil ?_
    refine e_any (hw12.ok mem8) ?_
    refine a_one (L' := [true, true, true, true, true, true, true, true, true, true, true, true, true, true, true, true, true, true, true, true, true, true, true, true, true, true, true, true, true, true, false, false, false, false, false, false, false, false, false, false, false, false, false]) 29 (by kernel_rfl) rfl rfl ?_
    refine l_call rfl rfl Try.func13 rfl rfl (.cons rfl (.cons rfl .nil)) (wordsK _ _ lo1 lw (cnU hco) (cnU hcw) (by have := cn_len hco (k := 64) hb1; omega) (by have := cn_len hcw (k := 64) hb1'; omega) w12 (hw12.io mem3) (hw12.io mem0)) ?_
    rintro _ w13 ⟨rfl, hG⟩
    have hw13 := hG _ _ _ _ hw12
    clear hG hw12
    simp only [List.cons_append, List.nil_append] at hw13
    refine l_turn (s := 72) (v' := .bool true) rfl (by rw [decide_eq_true (hco.eq (by omega) (e1 ▸ hcw))]) ?_
    refine l_nil ?_
    refine e_any (hw13.ok mem8) ?_
    apply a_take (L' := [true, true, true, true, true, true, true, true, true, true, true, true, true, true, true, true, true, true, true, true, true, true, true, true, true, true, true, true, true, true, true, false, false, false, false, false, false, false, false, false, false, false, false]) 30 rfl (by kernel_rfl) (by kernel_rfl) (by kernel_rfl) rfl rfl rfl rfl rfl (hw13.ok mem8)
    · intro wS sS
      refine l_pick_t rfl rfl rfl rfl ?_
      refine l_nil ?_
      exact e_got rfl
    apply a_take (L' := [true, true, true, true, true, true, true, true, true, true, true, true, true, true, true, true, true, true, true, true, true, true, true, true, true, true, true, true, true, true, true, true, false, false, false, false, false, false, false, false, false, false, false]) 31 rfl (by kernel_rfl) (by kernel_rfl) (by kernel_rfl) rfl rfl rfl rfl rfl (hw13.ok mem8)
    · intro wS sS
      refine l_move rfl rfl rfl ?_
      refine l_nil ?_
      exact e_got rfl
    apply a_take (L' := [true, true, true, true, true, true, true, true, true, true, true, true, true, true, true, true, true, true, true, true, true, true, true, true, true, true, true, true, true, true, true, true, true, false, false, false, false, false, false, false, false, false, false]) 32 rfl (by kernel_rfl) (by kernel_rfl) (by kernel_rfl) rfl rfl rfl rfl rfl (hw13.ok mem8)
    · intro wS sS
      refine l_load_agg (blk_st sS) mem0 rfl rfl Try.underlying24 rfl tz24 rfl (.take (.take .nil)) ?_
      refine l_nil ?_
      exact e_got rfl
    apply a_take (L' := [true, true, true, true, true, true, true, true, true, true, true, true, true, true, true, true, true, true, true, true, true, true, true, true, true, true, true, true, true, true, true, true, true, false, true, false, false, false, false, false, false, false, false]) 34 rfl (by kernel_rfl) (by kernel_rfl) (by kernel_rfl) rfl rfl rfl rfl rfl (hw13.ok mem8)
    · intro wS sS
      refine l_load_agg (blk_st sS) mem0 rfl rfl Try.underlying24 rfl tz24 rfl (.take (.take .nil)) ?_
      refine l_nil ?_
      exact e_got rfl
    refine a_one (L' := [true, true, true, true, true, true, true, true, true, true, true, true, true, true, true, true, true, true, true, true, true, true, true, true, true, true, true, true, true, true, true, true, true, true, true, false, false, false, false, false, false, false, false]) 33 (by kernel_rfl) rfl rfl ?_
    refine l_call rfl rfl Try.func17 rfl rfl (.cons rfl .nil) (fromN hi lo hhi hlo w13) ?_
    rintro vf w14 ⟨_, lf, rfl, hcf, hG⟩
    have hw14 := hG _ _ _ _ hw13
    clear hG hw13
    simp only [List.cons_append, List.nil_append] at hw14
    refine l_nil ?_
    refine e_any (hw14.ok mem9) ?_
    refine a_one (L' := [true, true, true, true, true, true, true, true, true, true, true, true, true, true, true, true, true, true, true, true, true, true, true, true, true, true, true, true, true, true, true, true, true, true, true, true, false, false, false, false, false, false, false]) 35 (by kernel_rfl) rfl rfl ?_
    refine l_call rfl rfl Try.func18 rfl rfl (.cons rfl .nil) (ofR hi lo hhi hlo w14) ?_
    rintro vg w15 ⟨_, lg, rfl, hRg, hG⟩
    have hw15 := hG _ _ _ _ hw14
    clear hG hw14
    simp only [List.cons_append, List.nil_append] at hw15
    refine l_nil ?_
    refine e_any (hw15.ok mem10) ?_
    refine a_one (L' := [true, true, true, true, true, true, true, true, true, true, true, true, true, true, true, true, true, true, true, true, true, true, true, true, true, true, true, true, true, true, true, true, true, true, true, true, true, false, false, false, false, false, false]) 36 (by kernel_rfl) rfl rfl ?_
    refine l_call rfl rfl Try.func15 rfl rfl (.cons rfl .nil) (wordsR vg lg _ hRg (by have := hRg.len (k := 128) hb2; omega) w15 (hw15.io mem0)) ?_
    rintro vx w16 ⟨_, lx, rfl, hcx, hG⟩
    have hw16 := hG _ _ _ _ hw15
    clear hG hw15
    simp only [List.cons_append, List.nil_append] at hw16
    refine l_nil ?_
    refine e_any (hw16.ok mem11) ?_
    refine a_one (L' := [true, true, true, true, true, true, true, true, true, true, true, true, true, true, true, true, true, true, true, true, true, true, true, true, true, true, true, true, true, true, true, true, true, true, true, true, true, true, false, false, false, false, false]) 37 (by kernel_rfl) rfl rfl ?_
    refine l_call rfl rfl Try.func13 rfl rfl (.cons rfl (.cons rfl .nil)) (wordsK _ _ lf lx (cnU hcf) (cnU hcx) (by have := cn_len hcf (k := 128) hb2; omega) (by have := cn_len hcx (k := 128) hb2; omega) w16 (hw16.io mem2) (hw16.io mem0)) ?_
    rintro _ w17 ⟨rfl, hG⟩
    have hw17 := hG _ _ _ _ hw16
    clear hG hw16
    simp only [List.cons_append, List.nil_append] at hw17
    refine l_turn (s := 80) (v' := .bool true) rfl (by rw [decide_eq_true (hcf.eq (by omega) hcx)]) ?_
    refine l_nil ?_
    refine e_any (hw17.ok mem11) ?_
    apply a_take (L' := [true, true, true, true, true, true, true, true, true, true, true, true, true, true, true, true, true, true, true, true, true, true, true, true, true, true, true, true, true, true, true, true, true, true, true, true, true, true, true, false, false, false, false]) 38 rfl (by kernel_rfl) (by kernel_rfl) (by kernel_rfl) rfl rfl rfl rfl rfl (hw17.ok mem11)
    · intro wS sS
      refine l_pick_t rfl rfl rfl rfl ?_
      refine l_nil ?_
      exact e_got rfl
    apply a_take (L' := [true, true, true, true, true, true, true, true, true, true, true, true, true, true, true, true, true, true, true, true, true, true, true, true, true, true, true, true, true, true, true, true, true, true, true, true, true, true, true, true, false, false, false]) 39 rfl (by kernel_rfl) (by kernel_rfl) (by kernel_rfl) rfl rfl rfl rfl rfl (hw17.ok mem11)
    · intro wS sS
      refine l_move rfl rfl rfl ?_
      refine l_nil ?_
      exact e_got rfl
    refine a_one (L' := [true, true, true, true, true, true, true, true, true, true, true, true, true, true, true, true, true, true, true, true, true, true, true, true, true, true, true, true, true, true, true, true, true, true, true, true, true, true, true, true, true, false, false]) 40 (by kernel_rfl) rfl rfl ?_
    refine l_call rfl rfl Try.func19 rfl rfl .nil (wakesL w17) ?_
    rintro _ w18 ⟨rfl, hG⟩
    have hw18 := hG _ _ _ _ hw17
    clear hG hw17
    simp only [List.cons_append, List.nil_append] at hw18
    refine l_turn (s := 83) (v' := .bool true) rfl (by rfl) ?_
    refine l_nil ?_
    refine e_any (hw18.ok mem11) ?_
    apply a_take (L' := [true, true, true, true, true, true, true, true, true, true, true, true, true, true, true, true, true, true, true, true, true, true, true, true, true, true, true, true, true, true, true, true, true, true, true, true, true, true, true, true, true, true, false]) 41 rfl (by kernel_rfl) (by kernel_rfl) (by kernel_rfl) rfl rfl rfl rfl rfl (hw18.ok mem11)
    · intro wS sS
      refine l_pick_t rfl rfl rfl rfl ?_
      refine l_nil ?_
      exact e_got rfl
    apply a_take (L' := [true, true, true, true, true, true, true, true, true, true, true, true, true, true, true, true, true, true, true, true, true, true, true, true, true, true, true, true, true, true, true, true, true, true, true, true, true, true, true, true, true, true, true]) 42 rfl (by kernel_rfl) (by kernel_rfl) (by kernel_rfl) rfl rfl rfl rfl rfl (hw18.ok mem11)
    · intro wS sS
      refine l_assign rfl rfl rfl ?_
      refine l_nil ?_
      exact e_got rfl
    refine a_done (by kernel_rfl) ?_
    refine e_then ?_
    refine c_keep [4] (.cons rfl .nil) ?_
    refine c_ret ?_
    refine e_done1 Try.results3 rfl ?_
    refine ⟨_, rfl, ?_⟩
    have hw19 := St.del (.tail (.tail (.tail (.tail (.tail (.tail (.tail (.tail (.tail (.tail (.tail .head))))))))))) hw18
    clear hw18
    have hw20 := St.del (.tail (.tail (.tail (.tail (.tail (.tail (.tail (.tail (.tail (.tail .head)))))))))) hw19
    clear hw19
    have hw21 := St.del (.tail (.tail (.tail (.tail (.tail (.tail (.tail (.tail (.tail .head))))))))) hw20
    clear hw20
    have hw22 := St.del (.tail (.tail (.tail (.tail (.tail (.tail (.tail (.tail .head)))))))) hw21
    clear hw21
    have hw23 := St.del (.tail (.tail (.tail (.tail (.tail (.tail (.tail .head))))))) hw22
    clear hw22
    have hw24 := St.del (.tail (.tail (.tail (.tail (.tail (.tail .head)))))) hw23
    clear hw23
    have hw25 := St.del (.tail (.tail (.tail (.tail (.tail .head))))) hw24
    clear hw24
    have hw26 := St.del (.tail (.tail (.tail (.tail .head)))) hw25
    clear hw25
    have hw27 := St.del (.tail (.tail (.tail .head))) hw26
    clear hw26
    have hw28 := St.del (.tail (.tail .head)) hw27
    clear hw27
    have hw29 := St.del (.tail .head) hw28
    clear hw28
    have hw30 := St.del .head hw29
    clear hw29
    exact ⟨rfl, hw30.grows⟩
  · skip
    refine v_lit hw8 rfl rfl Try.underlying25 ti22 rfl (.cons rfl rfl .nil) rfl rfl rfl (fun b5_26 w31 hw31 => ?_)
    clear hw8
    refine l_nil ?_
    refine e_any (hw31.ok mem5) ?_
    refine a_one (L' := [true, true, true, true, true, true, true, true, true, true, true, true, true, true, true, true, true, true, true, true, true, true, true, true, true, true, true, false, false, false, false, false, false, false, false, false, false, false, false, false, false, false, false]) 23 (by kernel_rfl) rfl rfl ?_
    refine l_call rfl rfl Try.func14 rfl rfl (.cons rfl .nil) (ofN lo hlo w31) ?_
    rintro vo w32 ⟨_, lo1, rfl, hco, hG⟩
    have hw32 := hG _ _ _ _ hw31
    clear hG hw31
    simp only [List.cons_append, List.nil_append] at hw32
    refine l_nil ?_
    refine e_any (hw32.ok mem6) ?_
    refine a_one (L' := [true, true, true, true, true, true, true, true, true, true, true, true, true, true, true, true, true, true, true, true, true, true, true, true, true, true, true, true, false, false, false, false, false, false, false, false, false, false, false, false, false, false, false]) 27 (by kernel_rfl) rfl rfl ?_
    refine l_call rfl rfl Try.func16 rfl rfl (.cons rfl .nil) (numR _ [lo] (U.one hlo) (by simp) w32 (hw32.ibl mem1)) ?_
    rintro vn w33 ⟨_, ln, rfl, hRn, hG⟩
    have hw33 := hG _ _ _ _ hw32
    clear hG hw32
    simp only [List.cons_append, List.nil_append] at hw33
    refine l_nil ?_
    refine e_any (hw33.ok mem7) ?_
    refine a_one (L' := [true, true, true, true, true, true, true, true, true, true, true, true, true, true, true, true, true, true, true, true, true, true, true, true, true, true, true, true, true, false, false, false, false, false, false, false, false, false, false, false, false, false, false]) 28 (by kernel_rfl) rfl rfl ?_
    refine l_call rfl rfl Try.func15 rfl rfl (.cons rfl .nil) (wordsR vn ln _ hRn (by have := R16.len_num (U.one hlo) hRn; simp at this; omega) w33 (hw33.io mem0)) ?_
    rintro vw w34 ⟨_, lw, rfl, hcw, hG⟩
    have hw34 := hG _ _ _ _ hw33
    clear hG hw33
    simp only [List.cons_append, List.nil_append] at hw34
    refine l_nil ?_
    refine e_any (hw34.ok mem8) ?_
    refine a_one (L' := [true, true, true, true, true, true, true, true, true, true, true, true, true, true, true, true, true, true, true, true, true, true, true, true, true, true, true, true, true, true, false, false, false, false, false, false, false, false, false, false, false, false, false]) 29 (by kernel_rfl) rfl rfl ?_
    refine l_call rfl rfl Try.func13 rfl rfl (.cons rfl (.cons rfl .nil)) (wordsK _ _ lo1 lw (cnU hco) (cnU hcw) (by have := cn_len hco (k := 64) hb1; omega) (by have := cn_len hcw (k := 64) hb1'; omega) w34 (hw34.io mem2) (hw34.io mem0)) ?_
    rintro _ w35 ⟨rfl, hG⟩
    have hw35 := hG _ _ _ _ hw34
    clear hG hw34
    simp only [List.cons_append, List.nil_append] at hw35
    refine l_turn (s := 72) (v' := .bool true) rfl (by rw [decide_eq_true (hco.eq (by omega) (e1 ▸ hcw))]) ?_
    refine l_nil ?_
    refine e_any (hw35.ok mem8) ?_
    apply a_take (L' := [true, true, true, true, true, true, true, true, true, true, true, true, true, true, true, true, true, true, true, true, true, true, true, true, true, true, true, true, true, true, true, false, false, false, false, false, false, false, false, false, false, false, false]) 30 rfl (by kernel_rfl) (by kernel_rfl) (by kernel_rfl) rfl rfl rfl rfl rfl (hw35.ok mem8)
    · intro wS sS
      refine l_pick_t rfl rfl rfl rfl ?_
      refine l_nil ?_
      exact e_got rfl
    apply a_take (L' := [true, true, true, true, true, true, true, true, true, true, true, true, true, true, true, true, true, true, true, true, true, true, true, true, true, true, true, true, true, true, true, true, false, false, false, false, false, false, false, false, false, false, false]) 31 rfl (by kernel_rfl) (by kernel_rfl) (by kernel_rfl) rfl rfl rfl rfl rfl (hw35.ok mem8)
    · intro wS sS
      refine l_move rfl rfl rfl ?_
      refine l_nil ?_
      exact e_got rfl
    apply a_take (L' := [true, true, true, true, true, true, true, true, true, true, true, true, true, true, true, true, true, true, true, true, true, true, true, true, true, true, true, true, true, true, true, true, true, false, false, false, false, false, false, false, false, false, false]) 32 rfl (by kernel_rfl) (by kernel_rfl) (by kernel_rfl) rfl rfl rfl rfl rfl (hw35.ok mem8)
    · intro wS sS
      refine l_load_agg (blk_st sS) mem0 rfl rfl Try.underlying24 rfl tz24 rfl (.take (.take .nil)) ?_
      refine l_nil ?_
      exact e_got rfl
    apply a_take (L' := [true, true, true, true, true, true, true, true, true, true, true, true, true, true, true, true, true, true, true, true, true, true, true, true, true, true, true, true, true, true, true, true, true, false, true, false, false, false, false, false, false, false, false]) 34 rfl (by kernel_rfl) (by kernel_rfl) (by kernel_rfl) rfl rfl rfl rfl rfl (hw35.ok mem8)
    · intro wS sS
      refine l_load_agg (blk_st sS) mem0 rfl rfl Try.underlying24 rfl tz24 rfl (.take (.take .nil)) ?_
      refine l_nil ?_
      exact e_got rfl
    refine a_one (L' := [true, true, true, true, true, true, true, true, true, true, true, true, true, true, true, true, true, true, true, true, true, true, true, true, true, true, true, true, true, true, true, true, true, true, true, false, false, false, false, false, false, false, false]) 33 (by kernel_rfl) rfl rfl ?_
    refine l_call rfl rfl Try.func17 rfl rfl (.cons rfl .nil) (fromN hi lo hhi hlo w35) ?_
    rintro vf w36 ⟨_, lf, rfl, hcf, hG⟩
    have hw36 := hG _ _ _ _ hw35
    clear hG hw35
    simp only [List.cons_append, List.nil_append] at hw36
    refine l_nil ?_
    refine e_any (hw36.ok mem9) ?_
    refine a_one (L' := [true, true, true, true, true, true, true, true, true, true, true, true, true, true, true, true, true, true, true, true, true, true, true, true, true, true, true, true, true, true, true, true, true, true, true, true, false, false, false, false, false, false, false]) 35 (by kernel_rfl) rfl rfl ?_
    refine l_call rfl rfl Try.func18 rfl rfl (.cons rfl .nil) (ofR hi lo hhi hlo w36) ?_
    rintro vg w37 ⟨_, lg, rfl, hRg, hG⟩
    have hw37 := hG _ _ _ _ hw36
    clear hG hw36
    simp only [List.cons_append, List.nil_append] at hw37
    refine l_nil ?_
    refine e_any (hw37.ok mem10) ?_
    refine a_one (L' := [true, true, true, true, true, true, true, true, true, true, true, true, true, true, true, true, true, true, true, true, true, true, true, true, true, true, true, true, true, true, true, true, true, true, true, true, true, false, false, false, false, false, false]) 36 (by kernel_rfl) rfl rfl ?_
    refine l_call rfl rfl Try.func15 rfl rfl (.cons rfl .nil) (wordsR vg lg _ hRg (by have := hRg.len (k := 128) hb2; omega) w37 (hw37.io mem0)) ?_
    rintro vx w38 ⟨_, lx, rfl, hcx, hG⟩
    have hw38 := hG _ _ _ _ hw37
    clear hG hw37
    simp only [List.cons_append, List.nil_append] at hw38
    refine l_nil ?_
    refine e_any (hw38.ok mem11) ?_
    refine a_one (L' := [true, true, true, true, true, true, true, true, true, true, true, true, true, true, true, true, true, true, true, true, true, true, true, true, true, true, true, true, true, true, true, true, true, true, true, true, true, true, false, false, false, false, false]) 37 (by kernel_rfl) rfl rfl ?_
    refine l_call rfl rfl Try.func13 rfl rfl (.cons rfl (.cons rfl .nil)) (wordsK _ _ lf lx (cnU hcf) (cnU hcx) (by have := cn_len hcf (k := 128) hb2; omega) (by have := cn_len hcx (k := 128) hb2; omega) w38 (hw38.io mem2) (hw38.io mem0)) ?_
    rintro _ w39 ⟨rfl, hG⟩
    have hw39 := hG _ _ _ _ hw38
    clear hG hw38
    simp only [List.cons_append, List.nil_append] at hw39
    refine l_turn (s := 80) (v' := .bool true) rfl (by rw [decide_eq_true (hcf.eq (by omega) hcx)]) ?_
    refine l_nil ?_
    refine e_any (hw39.ok mem11) ?_
    apply a_take (L' := [true, true, true, true, true, true, true, true, true, true, true, true, true, true, true, true, true, true, true, true, true, true, true, true, true, true, true, true, true, true, true, true, true, true, true, true, true, true, true, false, false, false, false]) 38 rfl (by kernel_rfl) (by kernel_rfl) (by kernel_rfl) rfl rfl rfl rfl rfl (hw39.ok mem11)
    · intro wS sS
      refine l_pick_t rfl rfl rfl rfl ?_
      refine l_nil ?_
      exact e_got rfl
    apply a_take (L' := [true, true, true, true, true, true, true, true, true, true, true, true, true, true, true, true, true, true, true, true, true, true, true, true, true, true, true, true, true, true, true, true, true, true, true, true, true, true, true, true, false, false, false]) 39 rfl (by kernel_rfl) (by kernel_rfl) (by kernel_rfl) rfl rfl rfl rfl rfl (hw39.ok mem11)
    · intro wS sS
      refine l_move rfl rfl rfl ?_
      refine l_nil ?_
      exact e_got rfl
    refine a_one (L' := [true, true, true, true, true, true, true, true, true, true, true, true, true, true, true, true, true, true, true, true, true, true, true, true, true, true, true, true, true, true, true, true, true, true, true, true, true, true, true, true, true, false, false]) 40 (by kernel_rfl) rfl rfl ?_
    refine l_call rfl rfl Try.func19 rfl rfl .nil (wakesL w39) ?_
    rintro _ w40 ⟨rfl, hG⟩
    have hw40 := hG _ _ _ _ hw39
    clear hG hw39
    simp only [List.cons_append, List.nil_append] at hw40
    refine l_turn (s := 83) (v' := .bool true) rfl (by rfl) ?_
    refine l_nil ?_
    refine e_any (hw40.ok mem11) ?_
    apply a_take (L' := [true, true, true, true, true, true, true, true, true, true, true, true, true, true, true, true, true, true, true, true, true, true, true, true, true, true, true, true, true, true, true, true, true, true, true, true, true, true, true, true, true, true, false]) 41 rfl (by kernel_rfl) (by kernel_rfl) (by kernel_rfl) rfl rfl rfl rfl rfl (hw40.ok mem11)
    · intro wS sS
      refine l_pick_t rfl rfl rfl rfl ?_
      refine l_nil ?_
      exact e_got rfl
    apply a_take (L' := [true, true, true, true, true, true, true, true, true, true, true, true, true, true, true, true, true, true, true, true, true, true, true, true, true, true, true, true, true, true, true, true, true, true, true, true, true, true, true, true, true, true, true]) 42 rfl (by kernel_rfl) (by kernel_rfl) (by kernel_rfl) rfl rfl rfl rfl rfl (hw40.ok mem11)
    · intro wS sS
      refine l_assign rfl rfl rfl ?_
      refine l_nil ?_
      exact e_got rfl
    refine a_done (by kernel_rfl) ?_
    refine e_then ?_
    refine c_keep [4] (.cons rfl .nil) ?_
    refine c_ret ?_
    refine e_done1 Try.results3 rfl ?_
    refine ⟨_, rfl, ?_⟩
    have hw41 := St.del (.tail (.tail (.tail (.tail (.tail (.tail (.tail (.tail (.tail (.tail (.tail .head))))))))))) hw40
    clear hw40
    have hw42 := St.del (.tail (.tail (.tail (.tail (.tail (.tail (.tail (.tail (.tail (.tail .head)))))))))) hw41
    clear hw41
    have hw43 := St.del (.tail (.tail (.tail (.tail (.tail (.tail (.tail (.tail (.tail .head))))))))) hw42
    clear hw42
    have hw44 := St.del (.tail (.tail (.tail (.tail (.tail (.tail (.tail (.tail .head)))))))) hw43
    clear hw43
    have hw45 := St.del (.tail (.tail (.tail (.tail (.tail (.tail (.tail .head))))))) hw44
    clear hw44
    have hw46 := St.del (.tail (.tail (.tail (.tail (.tail (.tail .head)))))) hw45
    clear hw45
    have hw47 := St.del (.tail (.tail (.tail (.tail (.tail .head))))) hw46
    clear hw46
    have hw48 := St.del (.tail (.tail (.tail (.tail .head)))) hw47
    clear hw47
    have hw49 := St.del (.tail (.tail (.tail .head))) hw48
    clear hw48
    have hw50 := St.del (.tail (.tail .head)) hw49
    clear hw49
    have hw51 := St.del (.tail .head) hw50
    clear hw50
    have hw52 := St.del .head hw51
    clear hw51
    exact ⟨rfl, hw52.grows⟩
end Go.Proofs.Ytnddfmjmeghkjaa.W
