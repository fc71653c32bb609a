/- walks of PowerSegments, PowerWhole -/
import Derived.Test.YtellpcjmpmcpoaaPh
set_option linter.unusedVariables false
set_option linter.unusedSimpArgs false
set_option maxRecDepth 10000
namespace Go.Proofs.Ytellpcjmpmcpoaa.W
open Go.Vc Go.RowKit

theorem first_bd (s : Int) : -342 ≤ (firstS s).1 ∧ (firstS s).1 ≤ 298 ∧ 0 ≤ (firstS s).2.1 ∧ (firstS s).2.1 ≤ 16 ∧ (firstS s).1 + (firstS s).2.1 ≤ 309 := by
  unfold firstS
  split
  · simp
  · dsimp only
    split <;> omega

theorem powerSegmentsL (s : Int) (hs : -9223372036854775808 ≤ s ∧ s ≤ 9223372036854775807) (w : World) :
    CallsV P 7 [.int .i64 s] w fun r w' => r = .bool true ∧ Grow w w' [] := by
  refine enterW Try.func7 rfl Try.ntmps7 rfl ?_
  have hw0 := St.start w
  have hfb := first_bd s
  have hRl := segR_rows s
  have hll := segR_len s
  refine c_seq ?_
  refine c_region ?_
  refine l_assign rfl rfl rfl ?_
  refine l_nil ?_
  refine e_then ?_
  refine c_keep [0] (.cons rfl .nil) ?_
  refine c_seq ?_
  refine c_region ?_
  refine l_move rfl rfl rfl ?_
  refine l_call rfl rfl Try.func26 rfl rfl (.cons rfl .nil) (segP s hs w) ?_
  rintro _ w1 ⟨vl, rfl, hG⟩
  have hw1 := hG _ _ _ _ hw0
  try clear hG hw0
  simp only [List.cons_append, List.nil_append] at hw1
  refine l_move rfl rfl rfl ?_
  refine l_extract rfl rfl rfl rfl ?_
  refine l_extract rfl rfl rfl rfl ?_
  refine l_assign rfl rfl rfl ?_
  refine l_assign rfl rfl rfl ?_
  refine l_nil ?_
  refine e_then ?_
  refine c_keep [0, 3, 4] (.cons rfl (.cons rfl (.cons rfl .nil))) ?_
  refine c_seq ?_
  refine c_region ?_
  refine l_move rfl rfl rfl ?_
  refine l_callp rfl rfl Try.func25 rfl rfl (.cons rfl .nil) (firstR s hs _) ?_
  refine l_move rfl rfl rfl ?_
  refine l_extract rfl rfl rfl rfl ?_
  refine l_extract rfl rfl rfl rfl ?_
  refine l_extract rfl rfl rfl rfl ?_
  refine l_assign rfl rfl rfl ?_
  refine l_assign rfl rfl rfl ?_
  refine l_assign rfl rfl rfl ?_
  refine l_nil ?_
  refine e_then ?_
  refine c_keep [0, 3, 4, 5, 6, 7] (.cons rfl (.cons rfl (.cons rfl (.cons rfl (.cons rfl (.cons rfl .nil)))))) ?_
  refine c_seq ?_
  refine c_seq ?_
  refine c_region ?_
  refine l_move rfl rfl rfl ?_
  refine l_callp rfl rfl Try.func10 rfl rfl (.cons rfl .nil) (numL6 _ _) ?_
  refine l_move rfl rfl rfl ?_
  refine l_neq rfl rfl rfl rfl ?_
  refine l_turn (s := 36) (v' := .bool false) rfl (by simp) ?_
  refine l_move rfl rfl rfl ?_
  refine l_move rfl rfl rfl ?_
  refine k_len rfl rfl Try.underlying45 rfl (by first | exact hw1.ik (by assumption) mem0 | assumption) ?_
  refine l_move rfl rfl rfl ?_
  refine l_neq rfl rfl rfl rfl ?_
  refine l_turn (s := 41) (v' := .bool false) rfl (by exact congrArg Value.bool (decide_eq_false (by omega))) ?_
  refine l_pick_f rfl rfl rfl rfl ?_
  refine l_nil ?_
  refine e_then ?_
  refine c_keep [0, 3, 5, 42] (.cons rfl (.cons rfl (.cons rfl (.cons rfl .nil)))) ?_
  refine c_cond_f rfl rfl ?_
  refine c_skip ?_
  refine e_then ?_
  refine c_keep [0, 3, 5] (.cons rfl (.cons rfl (.cons rfl .nil))) ?_
  refine c_seq ?_
  refine c_seq ?_
  refine c_region ?_
  refine l_assign rfl rfl rfl ?_
  refine l_nil ?_
  refine e_then ?_
  refine c_block ?_
  refine c_loopk (ι := Nat) (fun (i : Nat) => (segR s).length - i) (fun (i : Nat) (w' : World) => St w w.heap.size None' ([As.rk 24 2 vl (segR s)]) w' ∧ i ≤ (segR s).length) (fun (i : Nat) => [(8, .int .i64 (i : Int))]) [0, 3, 5] (0) ?_ (.cons rfl (.cons rfl (.cons rfl .nil))) ?_ ?_
  · exact ⟨hw1, by omega⟩
  · exact (.cons rfl (by first | rfl | (refine congrArg (Value.int _) ?_; omega)) .nil)
  rintro i w2 ⟨hw2, hi⟩
  show RunC P _ _ _ (_ :: _) _
  refine c_seq ?_
  refine c_seq ?_
  refine c_region ?_
  refine l_move rfl rfl rfl ?_
  refine l_move rfl rfl rfl ?_
  refine k_len rfl rfl Try.underlying45 rfl (by first | exact hw2.ik (by assumption) mem0 | assumption) ?_
  refine l_lss rfl rfl rfl rfl ?_
  refine l_nil ?_
  refine e_then ?_
  refine c_keep [0, 3, 5, 8, 46] (.cons rfl (.cons rfl (.cons rfl (.cons rfl (.cons rfl .nil))))) ?_
  first | refine c_cond rfl (fun hc1 => ?_) (fun hc1 => ?_) | refine c_condb rfl (fun hc1 => ?_) (fun hc1 => ?_)
  · skip
    refine c_skip ?_
    refine e_then ?_
    refine c_keep [0, 3, 5, 8] (.cons rfl (.cons rfl (.cons rfl (.cons rfl .nil)))) ?_
    refine c_seq ?_
    refine c_block ?_
    refine c_seq ?_
    refine c_region ?_
    refine l_move rfl rfl rfl ?_
    refine l_move rfl rfl rfl ?_
    refine l_add rfl rfl rfl rfl (w_i64 (by omega)) ?_
    refine l_call rfl rfl Try.func9 rfl rfl (.cons rfl .nil) (entryP ((firstS s).1 + i) (by omega) w2) ?_
    rintro _ w3 ⟨rfl, hG⟩
    have hw3 := hG _ _ _ _ hw2
    try clear hG hw2
    simp only [List.cons_append, List.nil_append] at hw3
    refine l_move rfl rfl rfl ?_
    refine l_extract rfl rfl rfl rfl ?_
    refine l_extract rfl rfl rfl rfl ?_
    refine l_extract rfl rfl rfl rfl ?_
    refine l_alloc hw3 ta24 rfl rfl (fun b8_8 w4 hw4 => ?_)
    try clear hw3
    refine l_store_blks hw4 .head (.zero (.zero .nil)) rfl tz24 rfl rfl (by first | (simp [Value.oneCell']; done) | (intro u hu; simp only [List.mem_cons, List.not_mem_nil, or_false] at hu; rcases hu with rfl | rfl <;> first | rfl | assumption)) (fun w5 hw5 => ?_)
    try clear hw4
    refine l_assign rfl rfl rfl ?_
    refine l_assign rfl rfl rfl ?_
    refine l_nil ?_
    refine e_then ?_
    refine c_keep [0, 3, 5, 8, 9] (.cons rfl (.cons rfl (.cons rfl (.cons rfl (.cons rfl .nil))))) ?_
    refine c_seq ?_
    refine c_region ?_
    refine l_move rfl rfl rfl ?_
    refine l_move rfl rfl rfl ?_
    refine l_add rfl rfl rfl rfl (w_i64 (by omega)) ?_
    refine l_call rfl rfl Try.func17 rfl rfl (.cons rfl .nil) (entryR ((firstS s).1 + i) (by omega) w5) ?_
    rintro _ w6 ⟨rfl, hG⟩
    have hw6 := hG _ _ _ _ hw5
    try clear hG hw5
    simp only [List.cons_append, List.nil_append] at hw6
    refine l_move rfl rfl rfl ?_
    refine l_extract rfl rfl rfl rfl ?_
    refine l_extract rfl rfl rfl rfl ?_
    refine l_extract rfl rfl rfl rfl ?_
    refine l_alloc hw6 ta24 rfl rfl (fun b9_8 w7 hw7 => ?_)
    try clear hw6
    refine l_store_blks hw7 .head (.zero (.zero .nil)) rfl tz24 rfl rfl (by first | (simp [Value.oneCell']; done) | (intro u hu; simp only [List.mem_cons, List.not_mem_nil, or_false] at hu; rcases hu with rfl | rfl <;> first | rfl | assumption)) (fun w8 hw8 => ?_)
    try clear hw7
    refine l_assign rfl rfl rfl ?_
    refine l_assign rfl rfl rfl ?_
    refine l_nil ?_
    refine e_then ?_
    refine c_keep [0, 3, 5, 8, 9, 12] (.cons rfl (.cons rfl (.cons rfl (.cons rfl (.cons rfl (.cons rfl .nil)))))) ?_
    refine c_seq ?_
    refine c_still (by kernel_rfl) (by kernel_rfl) ?_
    have hw9 := hw8.drewn
    try clear hw8
    refine l_move rfl rfl rfl ?_
    refine l_move rfl rfl rfl ?_
    refine k_addr (j := i) rfl rfl Try.underlying45 tz24 (by decide) rfl rfl (by first | exact hw9.ibl mem0 | exact hw9.ibl mem1 | exact hw9.ik (by assumption) mem2 | assumption) (by first | rfl | omega) (by first | omega | (simp; done) | (simp; omega)) (fun ad10_2 ac10_2 hA10_2 => ?_)
    refine k_load (j := i) rfl rfl Try.underlying24 rfl tz24 rfl hA10_2 (by first | exact hw9.ibl mem0 | exact hw9.ibl mem1 | exact hw9.ik (by assumption) mem2 | assumption) (segR_at s i (by omega)) ?_
    refine l_load_agg hw9 mem1 rfl rfl Try.underlying24 rfl tz24 rfl (.take (.take .nil)) ?_
    refine l_neqA rfl rfl fl24 rfl rfl (.int rfl rfl (.int rfl rfl .nil)) ?_
    refine l_turn (s := 70) (v' := .bool false) rfl (by simp) ?_
    refine l_move rfl rfl rfl ?_
    refine l_load_agg hw9 mem1 rfl rfl Try.underlying24 rfl tz24 rfl (.take (.take .nil)) ?_
    refine l_load_agg hw9 mem0 rfl rfl Try.underlying24 rfl tz24 rfl (.take (.take .nil)) ?_
    refine l_neqA rfl rfl fl24 rfl rfl (.int rfl rfl (.int rfl rfl .nil)) ?_
    refine l_turn (s := 74) (v' := .bool false) rfl (by simp) ?_
    refine l_pick_f rfl rfl rfl rfl ?_
    refine l_nil ?_
    refine e_then ?_
    refine c_keep [0, 3, 5, 8, 75] (.cons rfl (.cons rfl (.cons rfl (.cons rfl (.cons rfl .nil))))) ?_
    refine c_cond_f rfl rfl ?_
    refine c_skip ?_
    refine e_blk ?_
    refine e_then ?_
    refine c_keep [0, 3, 5, 8] (.cons rfl (.cons rfl (.cons rfl (.cons rfl .nil)))) ?_
    refine c_region ?_
    refine l_move rfl rfl rfl ?_
    refine l_add rfl rfl rfl rfl (w_i64 (by omega)) ?_
    refine l_assign rfl rfl rfl ?_
    refine l_nil ?_
    have hw10 := St.del (.tail .head) hw9
    try clear hw9
    have hw11 := St.del .head hw10
    try clear hw10
    refine e_againk (i := (i)) (i + 1) ?_ ?_ (.cons rfl (.cons rfl (.cons rfl .nil))) ?_
    · first | omega | (simp; omega)
    · exact ⟨hw11, by omega⟩
    · exact (.cons rfl (by first | rfl | (refine congrArg (Value.int _) ?_; omega)) .nil)
  · skip
    refine c_exit ?_
    refine e_then_exit ?_
    refine e_then_exit ?_
    refine e_blk_exit ?_
    refine e_then ?_
    refine c_keep [0, 3, 5] (.cons rfl (.cons rfl (.cons rfl .nil))) ?_
    refine c_seq ?_
    refine c_region ?_
    refine l_move rfl rfl rfl ?_
    refine l_call rfl rfl Try.func26 rfl rfl (.cons rfl .nil) (segP s hs w2) ?_
    rintro _ w12 ⟨va, rfl, hG⟩
    have hw12 := hG _ _ _ _ hw2
    try clear hG hw2
    simp only [List.cons_append, List.nil_append] at hw12
    refine l_move rfl rfl rfl ?_
    refine l_extract rfl rfl rfl rfl ?_
    refine l_extract rfl rfl rfl rfl ?_
    refine l_assign rfl rfl rfl ?_
    refine l_assign rfl rfl rfl ?_
    refine l_nil ?_
    refine e_then ?_
    refine c_keep [3, 5, 15] (.cons rfl (.cons rfl (.cons rfl .nil))) ?_
    refine c_seq ?_
    refine c_seq ?_
    refine c_region ?_
    refine l_assign rfl rfl rfl ?_
    refine l_nil ?_
    refine e_then ?_
    refine c_block ?_
    refine c_loopk (ι := Nat × List (List Value)) (fun (z0 : Nat × List (List Value)) => match z0 with | ⟨i, rs⟩ => rs.length - i) (fun (z0 : Nat × List (List Value)) (w' : World) => match z0 with | ⟨i, rs⟩ => St w w.heap.size None' ([As.rk 24 2 va (segR s), As.rk 24 2 vl rs]) w' ∧ i ≤ rs.length ∧ rs.length = (segR s).length ∧ Rows_ 2 rs) (fun (z0 : Nat × List (List Value)) => match z0 with | ⟨i, rs⟩ => [(17, .int .i64 (i : Int))]) [3, 5, 15] (0, segR s) ?_ (.cons rfl (.cons rfl (.cons rfl .nil))) ?_ ?_
    · exact ⟨hw12, by omega, rfl, hRl⟩
    · exact (.cons rfl (by first | rfl | (refine congrArg (Value.int _) ?_; omega)) .nil)
    rintro ⟨i, rs⟩ w13 ⟨hw13, hi, hrl, hRs⟩
    show RunC P _ _ _ (_ :: _) _
    refine c_seq ?_
    refine c_seq ?_
    refine c_region ?_
    refine l_move rfl rfl rfl ?_
    refine l_move rfl rfl rfl ?_
    refine k_len rfl rfl Try.underlying45 rfl (by first | exact hw13.ik (by assumption) mem0 | exact hw13.ik (by assumption) mem1 | assumption) ?_
    refine l_lss rfl rfl rfl rfl ?_
    refine l_nil ?_
    refine e_then ?_
    refine c_keep [3, 5, 15, 17, 84] (.cons rfl (.cons rfl (.cons rfl (.cons rfl (.cons rfl .nil))))) ?_
    first | refine c_cond rfl (fun hc3 => ?_) (fun hc3 => ?_) | refine c_condb rfl (fun hc3 => ?_) (fun hc3 => ?_)
    · skip
      refine c_skip ?_
      refine e_then ?_
      refine c_keep [3, 5, 15, 17] (.cons rfl (.cons rfl (.cons rfl (.cons rfl .nil)))) ?_
      refine c_seq ?_
      refine c_block ?_
      refine c_region ?_
      refine l_move rfl rfl rfl ?_
      refine l_move rfl rfl rfl ?_
      refine l_buildS rfl rfl pl24 ta24 .nil ?_
      refine k_addr (j := i) rfl rfl Try.underlying45 tz24 (by decide) rfl rfl (by first | exact hw13.ik (by assumption) mem0 | exact hw13.ik (by assumption) mem1 | assumption) (by first | rfl | omega) (by first | omega | (simp; done) | (simp; omega)) (fun ad16_3 ac16_3 hA16_3 => ?_)
      refine k_store (j := i) hw13 (.tail .head) (by assumption) (by decide) hA16_3 rfl tz24 rfl rfl rfl (by first | omega | (simp; done) | (simp; omega)) (by first | (simp [Value.oneCell']; done) | (intro u hu; simp only [List.mem_cons, List.not_mem_nil, or_false] at hu; rcases hu with rfl | rfl <;> first | rfl | assumption)) (fun w14 hw14 => ?_)
      try clear hw13
      refine l_nil ?_
      refine e_blk ?_
      refine e_then ?_
      refine c_keep [3, 5, 15, 17] (.cons rfl (.cons rfl (.cons rfl (.cons rfl .nil)))) ?_
      refine c_region ?_
      refine l_move rfl rfl rfl ?_
      refine l_add rfl rfl rfl rfl (w_i64 (by omega)) ?_
      refine l_assign rfl rfl rfl ?_
      refine l_nil ?_
      refine e_againk (i := (i, rs)) (i + 1, rs.set i [.int .u64 0, .int .u64 0]) ?_ ?_ (.cons rfl (.cons rfl (.cons rfl .nil))) ?_
      · simp; omega
      · exact ⟨hw14, by simp; omega, by simpa using hrl, hRs.set rfl (by simp [Value.oneCell']) _⟩
      · exact (.cons rfl (by first | rfl | (refine congrArg (Value.int _) ?_; omega)) .nil)
    · skip
      refine c_exit ?_
      refine e_then_exit ?_
      refine e_then_exit ?_
      refine e_blk_exit ?_
      refine e_then ?_
      refine c_keep [3, 5, 15] (.cons rfl (.cons rfl (.cons rfl .nil))) ?_
      refine c_seq ?_
      refine c_seq ?_
      refine c_region ?_
      refine l_assign rfl rfl rfl ?_
      refine l_nil ?_
      refine e_then ?_
      refine c_block ?_
      refine c_loopk (ι := Nat) (fun (i : Nat) => (segR s).length - i) (fun (i : Nat) (w' : World) => St w w.heap.size None' ([As.rk 24 2 va (segR s), As.rk 24 2 vl rs]) w' ∧ i ≤ (segR s).length) (fun (i : Nat) => [(18, .int .i64 (i : Int))]) [3, 5, 15] (0) ?_ (.cons rfl (.cons rfl (.cons rfl .nil))) ?_ ?_
      · exact ⟨hw13, by omega⟩
      · exact (.cons rfl (by first | rfl | (refine congrArg (Value.int _) ?_; omega)) .nil)
      rintro i w15 ⟨hw15, hi⟩
      show RunC P _ _ _ (_ :: _) _
      refine c_seq ?_
      refine c_seq ?_
      refine c_region ?_
      refine l_move rfl rfl rfl ?_
      refine l_move rfl rfl rfl ?_
      refine k_len rfl rfl Try.underlying45 rfl (by first | exact hw15.ik (by assumption) mem0 | exact hw15.ik (by assumption) mem1 | assumption) ?_
      refine l_lss rfl rfl rfl rfl ?_
      refine l_nil ?_
      refine e_then ?_
      refine c_keep [3, 5, 15, 18, 94] (.cons rfl (.cons rfl (.cons rfl (.cons rfl (.cons rfl .nil))))) ?_
      first | refine c_cond rfl (fun hc4 => ?_) (fun hc4 => ?_) | refine c_condb rfl (fun hc4 => ?_) (fun hc4 => ?_)
      · skip
        refine c_skip ?_
        refine e_then ?_
        refine c_keep [3, 5, 15, 18] (.cons rfl (.cons rfl (.cons rfl (.cons rfl .nil)))) ?_
        refine c_seq ?_
        refine c_block ?_
        refine c_seq ?_
        refine c_region ?_
        refine l_move rfl rfl rfl ?_
        refine l_move rfl rfl rfl ?_
        refine l_add rfl rfl rfl rfl (w_i64 (by omega)) ?_
        refine l_call rfl rfl Try.func17 rfl rfl (.cons rfl .nil) (entryR ((firstS s).1 + i) (by omega) w15) ?_
        rintro _ w16 ⟨rfl, hG⟩
        have hw16 := hG _ _ _ _ hw15
        try clear hG hw15
        simp only [List.cons_append, List.nil_append] at hw16
        refine l_move rfl rfl rfl ?_
        refine l_extract rfl rfl rfl rfl ?_
        refine l_extract rfl rfl rfl rfl ?_
        refine l_extract rfl rfl rfl rfl ?_
        refine l_alloc hw16 ta24 rfl rfl (fun b20_8 w17 hw17 => ?_)
        try clear hw16
        refine l_store_blks hw17 .head (.zero (.zero .nil)) rfl tz24 rfl rfl (by first | (simp [Value.oneCell']; done) | (intro u hu; simp only [List.mem_cons, List.not_mem_nil, or_false] at hu; rcases hu with rfl | rfl <;> first | rfl | assumption)) (fun w18 hw18 => ?_)
        try clear hw17
        refine l_assign rfl rfl rfl ?_
        refine l_assign rfl rfl rfl ?_
        refine l_nil ?_
        refine e_then ?_
        refine c_keep [3, 5, 15, 18, 19] (.cons rfl (.cons rfl (.cons rfl (.cons rfl (.cons rfl .nil))))) ?_
        refine c_seq ?_
        refine c_still (by kernel_rfl) (by kernel_rfl) ?_
        have hw19 := hw18.drewn
        try clear hw18
        refine l_move rfl rfl rfl ?_
        refine l_move rfl rfl rfl ?_
        refine k_addr (j := i) rfl rfl Try.underlying45 tz24 (by decide) rfl rfl (by first | exact hw19.ibl mem0 | exact hw19.ik (by assumption) mem1 | exact hw19.ik (by assumption) mem2 | assumption) (by first | rfl | omega) (by first | omega | (simp; done) | (simp; omega)) (fun ad21_2 ac21_2 hA21_2 => ?_)
        refine k_load (j := i) rfl rfl Try.underlying24 rfl tz24 rfl hA21_2 (by first | exact hw19.ibl mem0 | exact hw19.ik (by assumption) mem1 | exact hw19.ik (by assumption) mem2 | assumption) (segR_at s i (by omega)) ?_
        refine l_load_agg hw19 mem0 rfl rfl Try.underlying24 rfl tz24 rfl (.take (.take .nil)) ?_
        refine l_neqA rfl rfl fl24 rfl rfl (.int rfl rfl (.int rfl rfl .nil)) ?_
        refine l_turn (s := 110) (v' := .bool false) rfl (by simp) ?_
        refine l_nil ?_
        refine e_then ?_
        refine c_keep [3, 5, 15, 18, 110] (.cons rfl (.cons rfl (.cons rfl (.cons rfl (.cons rfl .nil))))) ?_
        refine c_cond_f rfl rfl ?_
        refine c_skip ?_
        refine e_blk ?_
        refine e_then ?_
        refine c_keep [3, 5, 15, 18] (.cons rfl (.cons rfl (.cons rfl (.cons rfl .nil)))) ?_
        refine c_region ?_
        refine l_move rfl rfl rfl ?_
        refine l_add rfl rfl rfl rfl (w_i64 (by omega)) ?_
        refine l_assign rfl rfl rfl ?_
        refine l_nil ?_
        have hw20 := St.del .head hw19
        try clear hw19
        refine e_againk (i := (i)) (i + 1) ?_ ?_ (.cons rfl (.cons rfl (.cons rfl .nil))) ?_
        · first | omega | (simp; omega)
        · exact ⟨hw20, by omega⟩
        · exact (.cons rfl (by first | rfl | (refine congrArg (Value.int _) ?_; omega)) .nil)
      · skip
        refine c_exit ?_
        refine e_then_exit ?_
        refine e_then_exit ?_
        refine e_blk_exit ?_
        refine e_then ?_
        refine c_keep [3, 15] (.cons rfl (.cons rfl .nil)) ?_
        refine c_seq ?_
        refine c_region ?_
        refine l_move rfl rfl rfl ?_
        refine k_len rfl rfl Try.underlying45 rfl (by first | exact hw15.ik (by assumption) mem0 | exact hw15.ik (by assumption) mem1 | assumption) ?_
        refine l_move rfl rfl rfl ?_
        refine k_len rfl rfl Try.underlying45 rfl (by first | exact hw15.ik (by assumption) mem0 | exact hw15.ik (by assumption) mem1 | assumption) ?_
        refine l_eql rfl rfl rfl rfl ?_
        refine l_turn (s := 115) (v' := .bool true) rfl (by exact congrArg Value.bool (decide_eq_true (by omega))) ?_
        refine l_move rfl rfl rfl ?_
        refine l_call rfl rfl Try.func11 rfl rfl .nil (wakes6 w15) ?_
        rintro _ w21 ⟨rfl, hG⟩
        have hw21 := hG _ _ _ _ hw15
        try clear hG hw15
        simp only [List.cons_append, List.nil_append] at hw21
        refine l_turn (s := 117) (v' := .bool true) rfl (by rfl) ?_
        refine l_pick_t rfl rfl rfl rfl ?_
        refine l_assign rfl rfl rfl ?_
        refine l_nil ?_
        refine e_then ?_
        refine c_keep [2] (.cons rfl .nil) ?_
        refine c_ret ?_
        refine e_done1 Try.results7 rfl ?_
        refine ⟨_, rfl, ?_⟩
        have hw22 := St.del (.tail .head) hw21
        try clear hw21
        have hw23 := St.del .head hw22
        try clear hw22
        exact ⟨rfl, hw23.grows⟩
theorem powerWholeL  (w : World) :
    CallsV P 8 [] w fun r w' => r = .bool true ∧ Grow w w' [] := by
  refine enterW Try.func8 rfl Try.ntmps8 rfl ?_
  have hw0 := St.start w
  refine c_seq ?_
  refine c_region ?_
  refine l_assign rfl rfl rfl ?_
  refine l_nil ?_
  refine e_then ?_
  refine c_keep [] .nil ?_
  refine c_seq ?_
  refine c_region ?_
  refine l_assign rfl rfl rfl ?_
  refine l_nil ?_
  refine e_then ?_
  refine c_seq ?_
  refine c_seq ?_
  refine c_region ?_
  refine l_assign rfl rfl rfl ?_
  refine l_nil ?_
  refine e_then ?_
  refine c_block ?_
  refine c_loopk (ι := Nat × Int) (fun (z0 : Nat × Int) => match z0 with | ⟨s, q⟩ => 41 - s) (fun (z0 : Nat × Int) (w' : World) => match z0 with | ⟨s, q⟩ => St w w.heap.size None' ([]) w' ∧ s ≤ 41 ∧ q = if (s : Int) = 41 then 309 else -342 + 16 * (s : Int)) (fun (z0 : Nat × Int) => match z0 with | ⟨s, q⟩ => [(1, .int .i64 q), (2, .int .i64 (s : Int))]) [] (0, -342) ?_ .nil ?_ ?_
  · exact ⟨hw0, by omega, rfl⟩
  · exact (.cons rfl (by first | rfl | (refine congrArg (Value.int _) ?_; omega)) (.cons rfl (by first | rfl | (refine congrArg (Value.int _) ?_; omega)) .nil))
  rintro ⟨s, q⟩ w1 ⟨hw1, hs, hq⟩
  show RunC P _ _ _ (_ :: _) _
  have hqb : -342 ≤ q ∧ q ≤ 309 := by split at hq <;> omega
  have hq0 : s < 41 → q = -342 + 16 * (s : Int) := by split at hq <;> omega
  refine c_seq ?_
  refine c_seq ?_
  refine c_region ?_
  refine l_move rfl rfl rfl ?_
  refine l_lss rfl rfl rfl rfl ?_
  refine l_nil ?_
  refine e_then ?_
  refine c_keep [1, 2, 21] (.cons rfl (.cons rfl (.cons rfl .nil))) ?_
  first | refine c_cond rfl (fun hc0 => ?_) (fun hc0 => ?_) | refine c_condb rfl (fun hc0 => ?_) (fun hc0 => ?_)
  · skip
    refine c_skip ?_
    refine e_then ?_
    refine c_keep [1, 2] (.cons rfl (.cons rfl .nil)) ?_
    refine c_seq ?_
    refine c_block ?_
    refine c_seq ?_
    refine c_region ?_
    refine l_move rfl rfl rfl ?_
    refine l_callp rfl rfl Try.func24 rfl rfl (.cons rfl .nil) (firstP (s : Int) (by omega) _) ?_
    refine l_move rfl rfl rfl ?_
    refine l_extract rfl rfl rfl rfl ?_
    refine l_extract rfl rfl rfl rfl ?_
    refine l_extract rfl rfl rfl rfl ?_
    refine l_assign rfl rfl rfl ?_
    refine l_assign rfl rfl rfl ?_
    refine l_assign rfl rfl rfl ?_
    refine l_nil ?_
    refine e_then ?_
    refine c_keep [1, 2, 3, 4, 5] (.cons rfl (.cons rfl (.cons rfl (.cons rfl (.cons rfl .nil))))) ?_
    refine c_seq ?_
    refine c_region ?_
    refine l_move rfl rfl rfl ?_
    refine l_call rfl rfl Try.func26 rfl rfl (.cons rfl .nil) (segP (s : Int) (by omega) w1) ?_
    rintro _ w2 ⟨vl, rfl, hG⟩
    have hw2 := hG _ _ _ _ hw1
    try clear hG hw1
    simp only [List.cons_append, List.nil_append] at hw2
    refine l_move rfl rfl rfl ?_
    refine l_extract rfl rfl rfl rfl ?_
    refine l_extract rfl rfl rfl rfl ?_
    refine l_assign rfl rfl rfl ?_
    refine l_assign rfl rfl rfl ?_
    refine l_nil ?_
    refine e_then ?_
    refine c_keep [1, 2, 3, 4, 5, 6, 7] (.cons rfl (.cons rfl (.cons rfl (.cons rfl (.cons rfl (.cons rfl (.cons rfl .nil))))))) ?_
    refine c_seq ?_
    refine c_seq ?_
    refine c_region ?_
    have hfe : firstS (s : Int) = (-342 + 16 * (s : Int), if (s : Int) = 40 then 11 else 16, 0) := by unfold firstS; rw [if_neg (by omega)]
    have hRl := segR_rows (s : Int)
    have hll := segR_len (s : Int)
    obtain ⟨nn, hnd⟩ : ∃ nn : Nat, (firstS (s : Int)).2.1 = (nn : Int) := ⟨(firstS (s : Int)).2.1.toNat, by rw [hfe]; dsimp only; split <;> omega⟩
    have hn1 : (nn : Int) = if (s : Int) = 40 then 11 else 16 := by rw [← hnd, hfe]
    have hf1 : (firstS (s : Int)).1 = -342 + 16 * (s : Int) := by rw [hfe]
    have hf3 : (firstS (s : Int)).2.2 = 0 := by rw [hfe]
    have hnb : q + nn = (if (s : Int) + 1 = 41 then 309 else -342 + 16 * ((s : Int) + 1)) ∧ q + nn ≤ 309 ∧ nn ≤ 16 := by split at hn1 <;> split <;> omega
    rw [hnd] at hll ⊢
    refine l_move rfl rfl rfl ?_
    refine l_callp rfl rfl Try.func10 rfl rfl (.cons rfl .nil) (numL6 _ _) ?_
    refine l_neq rfl rfl rfl rfl ?_
    refine l_turn (s := 37) (v' := .bool false) rfl (by exact congrArg Value.bool (decide_eq_false (by rw [hf3]; simp))) ?_
    refine l_move rfl rfl rfl ?_
    refine l_move rfl rfl rfl ?_
    refine l_callp rfl rfl Try.func10 rfl rfl (.cons rfl .nil) (numL6 _ _) ?_
    refine l_neq rfl rfl rfl rfl ?_
    refine l_turn (s := 41) (v' := .bool false) rfl (by exact congrArg Value.bool (decide_eq_false (by rw [hf3]; simp))) ?_
    refine l_pick_f rfl rfl rfl rfl ?_
    refine l_move rfl rfl rfl ?_
    refine l_move rfl rfl rfl ?_
    refine l_move rfl rfl rfl ?_
    refine l_neq rfl rfl rfl rfl ?_
    refine l_turn (s := 46) (v' := .bool false) rfl (by exact congrArg Value.bool (decide_eq_false (by rw [hf1, hq0 (by omega)]; simp))) ?_
    refine l_pick_f rfl rfl rfl rfl ?_
    refine l_move rfl rfl rfl ?_
    refine l_move rfl rfl rfl ?_
    refine k_len rfl rfl Try.underlying45 rfl (by first | exact hw2.ik (by assumption) mem0 | assumption) ?_
    refine l_move rfl rfl rfl ?_
    refine l_neq rfl rfl rfl rfl ?_
    refine l_turn (s := 52) (v' := .bool false) rfl (by exact congrArg Value.bool (decide_eq_false (by omega))) ?_
    refine l_pick_f rfl rfl rfl rfl ?_
    refine l_nil ?_
    refine e_then ?_
    refine c_keep [1, 2, 4, 6, 53] (.cons rfl (.cons rfl (.cons rfl (.cons rfl (.cons rfl .nil))))) ?_
    refine c_cond_f rfl rfl ?_
    refine c_skip ?_
    refine e_then ?_
    refine c_keep [1, 2, 4, 6] (.cons rfl (.cons rfl (.cons rfl (.cons rfl .nil)))) ?_
    refine c_seq ?_
    refine c_seq ?_
    refine c_region ?_
    refine l_assign rfl rfl rfl ?_
    refine l_nil ?_
    refine e_then ?_
    refine c_block ?_
    refine c_loopk (ι := Nat) (fun (i : Nat) => nn - i) (fun (i : Nat) (w' : World) => St w w.heap.size None' ([As.rk 24 2 vl (segR (s : Int))]) w' ∧ i ≤ nn) (fun (i : Nat) => [(8, .int .i64 (i : Int))]) [1, 2, 4, 6] (0) ?_ (.cons rfl (.cons rfl (.cons rfl (.cons rfl .nil)))) ?_ ?_
    · exact ⟨hw2, by omega⟩
    · exact (.cons rfl (by first | rfl | (refine congrArg (Value.int _) ?_; omega)) .nil)
    rintro i w3 ⟨hw3, hi⟩
    show RunC P _ _ _ (_ :: _) _
    have hq1 := hq0 (by omega)
    refine c_seq ?_
    refine c_seq ?_
    refine c_region ?_
    refine l_move rfl rfl rfl ?_
    refine l_move rfl rfl rfl ?_
    refine l_lss rfl rfl rfl rfl ?_
    refine l_nil ?_
    refine e_then ?_
    refine c_keep [1, 2, 4, 6, 8, 56] (.cons rfl (.cons rfl (.cons rfl (.cons rfl (.cons rfl (.cons rfl .nil)))))) ?_
    first | refine c_cond rfl (fun hc2 => ?_) (fun hc2 => ?_) | refine c_condb rfl (fun hc2 => ?_) (fun hc2 => ?_)
    · skip
      refine c_skip ?_
      refine e_then ?_
      refine c_keep [1, 2, 4, 6, 8] (.cons rfl (.cons rfl (.cons rfl (.cons rfl (.cons rfl .nil))))) ?_
      refine c_seq ?_
      refine c_block ?_
      refine c_seq ?_
      refine c_region ?_
      refine l_move rfl rfl rfl ?_
      refine l_move rfl rfl rfl ?_
      refine l_add rfl rfl rfl rfl (w_i64 (by omega)) ?_
      refine l_callp rfl rfl Try.func22 rfl rfl (.cons rfl .nil) (whereP (q + i) (by omega) _) ?_
      refine l_move rfl rfl rfl ?_
      refine l_extract rfl rfl rfl rfl ?_
      refine l_extract rfl rfl rfl rfl ?_
      refine l_extract rfl rfl rfl rfl ?_
      refine l_assign rfl rfl rfl ?_
      refine l_assign rfl rfl rfl ?_
      refine l_assign rfl rfl rfl ?_
      refine l_nil ?_
      refine e_then ?_
      refine c_keep [1, 2, 4, 6, 8, 9, 10, 11] (.cons rfl (.cons rfl (.cons rfl (.cons rfl (.cons rfl (.cons rfl (.cons rfl (.cons rfl .nil)))))))) ?_
      refine c_seq ?_
      refine c_region ?_
      have hwe : whereS (q + i) = ((q + i + 342) / 16, (q + i + 342) % 16, 0) := by unfold whereS; rw [if_neg (by omega)]
      have hbo := (bounds_at (q := q + i) (by omega)).2.1
      have hat := segR_at (s : Int) i (by omega)
      rw [hf1, ← hq1] at hat
      rw [hwe]
      refine l_move rfl rfl rfl ?_
      refine l_callp rfl rfl Try.func10 rfl rfl (.cons rfl .nil) (numL6 _ _) ?_
      refine l_neq rfl rfl rfl rfl ?_
      refine l_turn (s := 69) (v' := .bool false) rfl (by simp) ?_
      refine l_move rfl rfl rfl ?_
      refine l_move rfl rfl rfl ?_
      refine l_move rfl rfl rfl ?_
      refine l_neq rfl rfl rfl rfl ?_
      refine l_turn (s := 73) (v' := .bool false) rfl (by exact congrArg Value.bool (decide_eq_false (by omega))) ?_
      refine l_pick_f rfl rfl rfl rfl ?_
      refine l_move rfl rfl rfl ?_
      refine l_move rfl rfl rfl ?_
      refine l_move rfl rfl rfl ?_
      refine l_neq rfl rfl rfl rfl ?_
      refine l_turn (s := 78) (v' := .bool false) rfl (by exact congrArg Value.bool (decide_eq_false (by dsimp only; omega))) ?_
      refine l_pick_f rfl rfl rfl rfl ?_
      refine l_move rfl rfl rfl ?_
      refine l_move rfl rfl rfl ?_
      refine l_move rfl rfl rfl ?_
      refine k_addr (j := i) rfl rfl Try.underlying45 tz24 (by decide) rfl rfl (by first | exact hw3.ik (by assumption) mem0 | assumption) (by first | rfl | omega) (by first | omega | (simp; done) | (simp; omega)) (fun ad13_16 ac13_16 hA13_16 => ?_)
      refine k_field fo24_0 rfl rfl rfl ?_
      refine k_load1 (j := i) (o := 0) rfl rfl Try.underlying22 rfl rfl hA13_16 (by first | exact hw3.ik (by assumption) mem0 | assumption) (hat) rfl ?_
      refine l_lss rfl rfl rfl rfl ?_
      refine l_turn (s := 86) (v' := .bool false) rfl (by exact congrArg Value.bool (decide_eq_false (by omega))) ?_
      refine l_pick_f rfl rfl rfl rfl ?_
      refine l_nil ?_
      refine e_then ?_
      refine c_keep [1, 2, 4, 6, 8, 87] (.cons rfl (.cons rfl (.cons rfl (.cons rfl (.cons rfl (.cons rfl .nil)))))) ?_
      refine c_cond_f rfl rfl ?_
      refine c_skip ?_
      refine e_blk ?_
      refine e_then ?_
      refine c_keep [1, 2, 4, 6, 8] (.cons rfl (.cons rfl (.cons rfl (.cons rfl (.cons rfl .nil))))) ?_
      refine c_region ?_
      refine l_move rfl rfl rfl ?_
      refine l_add rfl rfl rfl rfl (w_i64 (by omega)) ?_
      refine l_assign rfl rfl rfl ?_
      refine l_nil ?_
      refine e_againk (i := (i)) (i + 1) ?_ ?_ (.cons rfl (.cons rfl (.cons rfl (.cons rfl .nil)))) ?_
      · first | omega | (simp; omega)
      · exact ⟨hw3, by omega⟩
      · exact (.cons rfl (by first | rfl | (refine congrArg (Value.int _) ?_; omega)) .nil)
    · skip
      refine c_exit ?_
      refine e_then_exit ?_
      refine e_then_exit ?_
      refine e_blk_exit ?_
      refine e_then ?_
      refine c_keep [1, 2, 4] (.cons rfl (.cons rfl (.cons rfl .nil))) ?_
      refine c_region ?_
      refine l_move rfl rfl rfl ?_
      refine l_move rfl rfl rfl ?_
      refine l_add rfl rfl rfl rfl (w_i64 (by omega)) ?_
      refine l_assign rfl rfl rfl ?_
      refine l_nil ?_
      refine e_blk ?_
      refine e_then ?_
      refine c_keep [1, 2] (.cons rfl (.cons rfl .nil)) ?_
      refine c_region ?_
      refine l_move rfl rfl rfl ?_
      refine l_add rfl rfl rfl rfl (w_i64 (by omega)) ?_
      refine l_assign rfl rfl rfl ?_
      refine l_nil ?_
      have hw4 := St.del .head hw3
      try clear hw3
      refine e_againk (i := (s, q)) (s + 1, q + nn) ?_ ?_ .nil ?_
      · first | omega | (simp; omega)
      · exact ⟨hw4, by omega, hnb.1⟩
      · exact (.cons rfl (by first | rfl | (refine congrArg (Value.int _) ?_; omega)) (.cons rfl (by first | rfl | (refine congrArg (Value.int _) ?_; omega)) .nil))
  · skip
    refine c_exit ?_
    refine e_then_exit ?_
    refine e_then_exit ?_
    refine e_blk_exit ?_
    refine e_then ?_
    refine c_keep [1] (.cons rfl .nil) ?_
    refine c_seq ?_
    refine c_region ?_
    have hq309 : q = 309 := by rw [hq, if_pos (by omega)]
    refine l_call rfl rfl Try.func26 rfl rfl (.cons rfl .nil) (segP 41 (by omega) w1) ?_
    rintro _ w5 ⟨vz, rfl, hG⟩
    have hw5 := hG _ _ _ _ hw1
    try clear hG hw1
    simp only [List.cons_append, List.nil_append] at hw5
    refine l_move rfl rfl rfl ?_
    refine l_extract rfl rfl rfl rfl ?_
    refine l_extract rfl rfl rfl rfl ?_
    refine l_assign rfl rfl rfl ?_
    refine l_assign rfl rfl rfl ?_
    refine l_nil ?_
    refine e_then ?_
    refine c_keep [1, 13] (.cons rfl (.cons rfl .nil)) ?_
    refine c_seq ?_
    refine c_region ?_
    refine l_move rfl rfl rfl ?_
    refine l_call rfl rfl Try.func9 rfl rfl (.cons rfl .nil) (entryP q (by omega) w5) ?_
    rintro _ w6 ⟨rfl, hG⟩
    have hw6 := hG _ _ _ _ hw5
    try clear hG hw5
    simp only [List.cons_append, List.nil_append] at hw6
    refine l_move rfl rfl rfl ?_
    refine l_extract rfl rfl rfl rfl ?_
    refine l_extract rfl rfl rfl rfl ?_
    refine l_extract rfl rfl rfl rfl ?_
    refine l_alloc hw6 ta24 rfl rfl (fun b17_6 w7 hw7 => ?_)
    try clear hw6
    refine l_store_blks hw7 .head (.zero (.zero .nil)) rfl tz24 rfl rfl (by first | (simp [Value.oneCell']; done) | (intro u hu; simp only [List.mem_cons, List.not_mem_nil, or_false] at hu; rcases hu with rfl | rfl <;> first | rfl | assumption)) (fun w8 hw8 => ?_)
    try clear hw7
    refine l_assign rfl rfl rfl ?_
    refine l_assign rfl rfl rfl ?_
    refine l_nil ?_
    refine e_then ?_
    refine c_keep [1, 13, 16] (.cons rfl (.cons rfl (.cons rfl .nil))) ?_
    refine c_seq ?_
    refine c_region ?_
    refine l_call rfl rfl Try.func9 rfl rfl (.cons rfl .nil) (entryP (-343) (by omega) w8) ?_
    rintro _ w9 ⟨rfl, hG⟩
    have hw9 := hG _ _ _ _ hw8
    try clear hG hw8
    simp only [List.cons_append, List.nil_append] at hw9
    refine l_move rfl rfl rfl ?_
    refine l_extract rfl rfl rfl rfl ?_
    refine l_extract rfl rfl rfl rfl ?_
    refine l_extract rfl rfl rfl rfl ?_
    refine l_alloc hw9 ta24 rfl rfl (fun b18_5 w10 hw10 => ?_)
    try clear hw9
    refine l_store_blks hw10 .head (.zero (.zero .nil)) rfl tz24 rfl rfl (by first | (simp [Value.oneCell']; done) | (intro u hu; simp only [List.mem_cons, List.not_mem_nil, or_false] at hu; rcases hu with rfl | rfl <;> first | rfl | assumption)) (fun w11 hw11 => ?_)
    try clear hw10
    refine l_assign rfl rfl rfl ?_
    refine l_assign rfl rfl rfl ?_
    refine l_nil ?_
    refine e_then ?_
    refine c_keep [1, 13, 16, 19] (.cons rfl (.cons rfl (.cons rfl (.cons rfl .nil)))) ?_
    refine c_seq ?_
    refine c_region ?_
    refine l_move rfl rfl rfl ?_
    refine l_eql rfl rfl rfl rfl ?_
    refine l_turn (s := 107) (v' := .bool true) rfl (by exact congrArg Value.bool (decide_eq_true hq309)) ?_
    refine l_move rfl rfl rfl ?_
    refine l_move rfl rfl rfl ?_
    refine l_callp rfl rfl Try.func10 rfl rfl (.cons rfl .nil) (numL6 _ _) ?_
    refine l_eql rfl rfl rfl rfl ?_
    refine l_turn (s := 111) (v' := .bool true) rfl (by rfl) ?_
    refine l_pick_t rfl rfl rfl rfl ?_
    refine l_move rfl rfl rfl ?_
    refine l_move rfl rfl rfl ?_
    refine l_callp rfl rfl Try.func10 rfl rfl (.cons rfl .nil) (numL6 _ _) ?_
    refine l_eql rfl rfl rfl rfl ?_
    refine l_turn (s := 116) (v' := .bool true) rfl (by exact congrArg Value.bool (decide_eq_true (by rw [hq309]; rfl))) ?_
    refine l_pick_t rfl rfl rfl rfl ?_
    refine l_move rfl rfl rfl ?_
    refine l_move rfl rfl rfl ?_
    refine l_callp rfl rfl Try.func10 rfl rfl (.cons rfl .nil) (numL6 _ _) ?_
    refine l_eql rfl rfl rfl rfl ?_
    refine l_turn (s := 121) (v' := .bool true) rfl (by rfl) ?_
    refine l_pick_t rfl rfl rfl rfl ?_
    refine l_move rfl rfl rfl ?_
    refine l_pick_t rfl rfl rfl rfl ?_
    refine l_move rfl rfl rfl ?_
    refine l_pick_t rfl rfl rfl rfl ?_
    refine l_move rfl rfl rfl ?_
    refine l_pick_t rfl rfl rfl rfl ?_
    refine l_move rfl rfl rfl ?_
    refine l_pick_t rfl rfl rfl rfl ?_
    refine l_move rfl rfl rfl ?_
    refine l_call rfl rfl Try.func11 rfl rfl .nil (wakes6 w11) ?_
    rintro _ w12 ⟨rfl, hG⟩
    have hw12 := hG _ _ _ _ hw11
    try clear hG hw11
    simp only [List.cons_append, List.nil_append] at hw12
    refine l_turn (s := 132) (v' := .bool true) rfl (by rfl) ?_
    refine l_pick_t rfl rfl rfl rfl ?_
    refine l_assign rfl rfl rfl ?_
    refine l_nil ?_
    refine e_then ?_
    refine c_keep [0] (.cons rfl .nil) ?_
    refine c_ret ?_
    refine e_done1 Try.results8 rfl ?_
    refine ⟨_, rfl, ?_⟩
    have hw13 := St.del (.tail (.tail .head)) hw12
    try clear hw12
    have hw14 := St.del (.tail .head) hw13
    try clear hw13
    have hw15 := St.del .head hw14
    try clear hw14
    exact ⟨rfl, hw15.grows⟩
end Go.Proofs.Ytellpcjmpmcpoaa.W
