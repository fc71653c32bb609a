/- walk of PowerBounds -/
import Derived.Test.YtellpcjmpmcpoaaPf
set_option linter.unusedVariables false
set_option linter.unusedSimpArgs false
set_option maxRecDepth 10000
namespace Go.Proofs.Ytellpcjmpmcpoaa.W
open Go.Vc Go.RowKit
theorem powerBoundsL (n : Int) (hn : -9223372036854775808 ≤ n ∧ n ≤ 9223372036854775807) (w : World) :
    CallsV P 5 [.int .i64 n] w fun r w' => r = .bool true ∧ Grow w w' [] := by
  refine enterW Try.func5 rfl Try.ntmps5 rfl ?_
  have hw0 := St.start w
  have htm := tmod_in n (show (0 : Int) < 651 by omega)
  refine c_seq ?_
  refine c_region ?_
  refine l_assign rfl rfl rfl ?_
  refine l_nil ?_
  refine e_then ?_
  refine c_keep [0] (.cons rfl .nil) ?_
  refine c_seq ?_
  refine c_region ?_
  refine l_move rfl rfl rfl ?_
  refine l_rem rfl rfl rfl rfl (by omega) (rfl) ?_
  refine l_add rfl rfl rfl rfl (w_i64 (by omega)) ?_
  refine l_assign rfl rfl rfl ?_
  refine l_nil ?_
  refine e_then ?_
  refine c_keep [3] (.cons rfl .nil) ?_
  refine c_cutk (ι := Int) (fun (q : Int) (w' : World) => St w w.heap.size None' ([]) w' ∧ -342 ≤ q ∧ q ≤ 308) (fun (q : Int) => [(3, .int .i64 q)]) [] .nil ?_ ?_
  · skip
    refine c_seq ?_
    refine c_region ?_
    refine l_move rfl rfl rfl ?_
    refine l_lss rfl rfl rfl rfl ?_
    refine l_nil ?_
    refine e_then ?_
    refine c_keep [3, 17] (.cons rfl (.cons rfl .nil)) ?_
    first | refine c_cond rfl (fun hc0 => ?_) (fun hc0 => ?_) | refine c_condb rfl (fun hc0 => ?_) (fun hc0 => ?_)
    · skip
      refine c_region ?_
      refine l_move rfl rfl rfl ?_
      refine l_add rfl rfl rfl rfl (w_i64 (by omega)) ?_
      refine l_sub rfl rfl rfl rfl (w_i64 (by omega)) ?_
      refine l_add rfl rfl rfl rfl (w_i64 (by omega)) ?_
      refine l_assign rfl rfl rfl ?_
      refine l_nil ?_
      refine e_meetk (-342 + n.tmod 651 + 308 - -342 + 1) ?_ .nil ?_
      · exact ⟨hw0, by omega⟩
      · exact (.cons rfl (by first | rfl | (refine congrArg (Value.int _) ?_; omega)) .nil)
    · skip
      refine c_skip ?_
      refine e_meetk (-342 + n.tmod 651) ?_ .nil ?_
      · exact ⟨hw0, by omega⟩
      · exact (.cons rfl (by first | rfl | (refine congrArg (Value.int _) ?_; omega)) .nil)
  rintro q w1 ⟨hw1, hq⟩
  show RunC P _ _ _ (_ :: _) _
  refine c_seq ?_
  refine c_region ?_
  refine l_move rfl rfl rfl ?_
  refine l_call rfl rfl Try.func9 rfl rfl (.cons rfl .nil) (entryP q (by omega) w1) ?_
  rintro _ w2 ⟨rfl, hG⟩
  have hw2 := hG _ _ _ _ hw1
  try clear hG hw1
  simp only [List.cons_append, List.nil_append] at hw2
  refine l_move rfl rfl rfl ?_
  refine l_extract rfl rfl rfl rfl ?_
  refine l_extract rfl rfl rfl rfl ?_
  refine l_extract rfl rfl rfl rfl ?_
  refine l_alloc hw2 ta24 rfl rfl (fun b4_6 w3 hw3 => ?_)
  try clear hw2
  refine l_store_blks hw3 .head (.zero (.zero .nil)) rfl tz24 rfl rfl (by first | (simp [Value.oneCell']; done) | (intro u hu; simp only [List.mem_cons, List.not_mem_nil, or_false] at hu; rcases hu with rfl | rfl <;> first | rfl | assumption)) (fun w4 hw4 => ?_)
  try clear hw3
  refine l_assign rfl rfl rfl ?_
  refine l_assign rfl rfl rfl ?_
  refine l_nil ?_
  refine e_then ?_
  refine c_keep [3, 4, 5, 6] (.cons rfl (.cons rfl (.cons rfl (.cons rfl .nil)))) ?_
  refine c_seq ?_
  refine c_seq ?_
  refine c_region ?_
  have hst := bounds_at (q := q) hq
  unfold boundP at hst
  obtain ⟨A, x, ea0, ea⟩ : ∃ A x e, entS q = (A, x, e) := ⟨_, _, _, rfl⟩
  rw [ea] at hst hw4 ⊢
  dsimp only at hst hw4 ⊢
  obtain ⟨rfl, hA0, hA1, hx0, hx1, hxn, hbn, hbs, hbp⟩ := hst
  refine l_move rfl rfl rfl ?_
  refine l_callp rfl rfl Try.func10 rfl rfl (.cons rfl .nil) (numL6 _ _) ?_
  refine l_neq rfl rfl rfl rfl ?_
  refine l_turn (s := 30) (v' := .bool false) rfl (by simp) ?_
  refine l_move rfl rfl rfl ?_
  refine l_field fo24_0 rfl rfl rfl ?_
  refine l_load_blk hw4 mem0 rfl rfl Try.underlying22 rfl rfl rfl ?_
  refine l_lss rfl rfl rfl rfl ?_
  refine l_turn (s := 34) (v' := .bool false) rfl (by exact congrArg Value.bool (decide_eq_false (by omega))) ?_
  refine l_pick_f rfl rfl rfl rfl ?_
  refine l_nil ?_
  refine e_then ?_
  refine c_keep [3, 4, 5, 35] (.cons rfl (.cons rfl (.cons rfl (.cons rfl .nil)))) ?_
  refine c_cond_f rfl rfl ?_
  refine c_skip ?_
  refine e_then ?_
  refine c_keep [3, 4, 5] (.cons rfl (.cons rfl (.cons rfl .nil))) ?_
  refine c_cutk (ι := Value × List Int × Value × List Int) (fun (z0 : Value × List Int × Value × List Int) (w' : World) => match z0 with | ⟨v1, l1, v2, l2⟩ => St w w.heap.size None' ([As.ri 3 .i64 v1 l1, As.ri 3 .i64 v2 l2, As.blk b4_6 24 [.int .u64 (A / 18446744073709551616), .int .u64 (A % 18446744073709551616)]]) w' ∧ R16 l1 A ∧ R16 l2 (A + 1)) (fun (z0 : Value × List Int × Value × List Int) => match z0 with | ⟨v1, l1, v2, l2⟩ => [(7, v1), (8, v2)]) [3, 4, 5] (.cons rfl (.cons rfl (.cons rfl .nil))) ?_ ?_
  · skip
    have hw5 := hw4.drewn
    try clear hw4
    refine c_any (n := 8) [false, false, false, false, false, false, false, false] (fun wS => (As.blk b4_6 24 [.int .u64 (A / 18446744073709551616), .int .u64 (A % 18446744073709551616)]).ok wS) (by kernel_rfl) rfl rfl ?_
    apply a_take (L' := [true, false, false, false, false, false, false, false]) 0 rfl (by kernel_rfl) (by kernel_rfl) (by kernel_rfl) rfl rfl rfl rfl rfl (hw5.ok mem0)
    · intro wS sS
      refine l_load_agg (blk_st sS) mem0 rfl rfl Try.underlying24 rfl tz24 rfl (.take (.take .nil)) ?_
      refine l_nil ?_
      exact e_got rfl
    apply a_take (L' := [true, false, true, false, false, false, false, false]) 2 rfl (by kernel_rfl) (by kernel_rfl) (by kernel_rfl) rfl rfl rfl rfl rfl (hw5.ok mem0)
    · intro wS sS
      refine l_load_agg (blk_st sS) mem0 rfl rfl Try.underlying24 rfl tz24 rfl (.take (.take .nil)) ?_
      refine l_nil ?_
      exact e_got rfl
    refine a_two (L' := [true, true, true, false, false, false, false, false]) (L'' := [true, false, true, false, true, false, false, false]) 1 4 (by kernel_rfl) rfl rfl rfl rfl ?_ ?_
    · skip
      refine l_call rfl rfl Try.func13 rfl rfl (.cons rfl .nil) (ofR (A / 18446744073709551616) (A % 18446744073709551616) (by omega) (by omega) w4.drew) ?_
      rintro vlo w6 ⟨_, llo, rfl, hRlo, hG⟩
      have hw6 := hG _ _ _ _ hw5
      try clear hG hw5
      simp only [List.cons_append, List.nil_append] at hw6
      rw [wide_back] at hRlo
      have hl_lo := len_of_lt hRlo (k := 128) (by rw [e128]; omega)
      refine l_nil ?_
      refine e_any (hw6.ok mem1) ?_
      refine a_two (L' := [true, true, true, true, false, false, false, false]) (L'' := [true, true, true, false, true, false, false, false]) 3 4 (by kernel_rfl) rfl rfl rfl rfl ?_ ?_
      · skip
        refine l_call rfl rfl Try.func13 rfl rfl (.cons rfl .nil) (ofR (A / 18446744073709551616) (A % 18446744073709551616) (by omega) (by omega) w6) ?_
        rintro vho w7 ⟨_, lho, rfl, hRho, hG⟩
        have hw7 := hG _ _ _ _ hw6
        try clear hG hw6
        simp only [List.cons_append, List.nil_append] at hw7
        rw [wide_back] at hRho
        have hl_ho := len_of_lt hRho (k := 128) (by rw [e128]; omega)
        refine l_nil ?_
        refine e_any (hw7.ok mem2) ?_
        refine a_one (L' := [true, true, true, true, true, false, false, false]) 4 (by kernel_rfl) rfl rfl ?_
        refine v_lit hw7 rfl rfl Try.underlying30 ti3 rfl (.cons rfl (by first | rfl | assumption) .nil) rfl rfl rfl (fun b7_4 w8 hw8 => ?_)
        try clear hw7
        refine l_nil ?_
        refine e_any (hw8.ok mem3) ?_
        refine a_one (L' := [true, true, true, true, true, true, false, false]) 5 (by kernel_rfl) rfl rfl ?_
        refine l_call rfl rfl Try.func20 rfl rfl (.cons rfl (.cons rfl .nil)) (sumR _ _ lho [1] _ 1 hRho R16_one (by omega) (by simp) w8 (hw8.io mem1) (hw8.ibl mem0)) ?_
        rintro vhi w9 ⟨_, lhi, rfl, hRhi, hG⟩
        have hw9 := hG _ _ _ _ hw8
        try clear hG hw8
        simp only [List.cons_append, List.nil_append] at hw9
        have hl_hi := len_of_lt hRhi (k := 129) (by rw [show (2 : Int) ^ 129 = 340282366920938463463374607431768211456 * 2 from by decide]; omega)
        refine l_nil ?_
        refine e_any (hw9.ok mem4) ?_
        apply a_take (L' := [true, true, true, true, true, true, true, false]) 6 rfl (by kernel_rfl) (by kernel_rfl) (by kernel_rfl) rfl rfl rfl rfl rfl (hw9.ok mem4)
        · intro wS sS
          refine l_assign rfl rfl rfl ?_
          refine l_nil ?_
          exact e_got rfl
        apply a_take (L' := [true, true, true, true, true, true, true, true]) 7 rfl (by kernel_rfl) (by kernel_rfl) (by kernel_rfl) rfl rfl rfl rfl rfl (hw9.ok mem4)
        · intro wS sS
          refine l_assign rfl rfl rfl ?_
          refine l_nil ?_
          exact e_got rfl
        refine a_done (by kernel_rfl) ?_
        have hw10 := St.frontL (l := [_, _, _, _]) hw9
        simp only [List.cons_append, List.nil_append] at hw10
        try clear hw9
        have hw11 := St.frontL (l := [_]) hw10
        simp only [List.cons_append, List.nil_append] at hw11
        try clear hw10
        have hw12 := St.frontL (l := [_, _, _, _]) hw11
        simp only [List.cons_append, List.nil_append] at hw12
        try clear hw11
        have hw13 := St.del (.tail (.tail (.tail (.tail .head)))) hw12
        try clear hw12
        have hw14 := St.del (.tail (.tail (.tail .head))) hw13
        try clear hw13
        refine e_meetk (vlo, llo, vhi, lhi) ?_ (.cons rfl (.cons rfl (.cons rfl .nil))) ?_
        · exact ⟨hw14, hRlo, hRhi⟩
        · exact (.cons rfl (by first | rfl | (refine congrArg (Value.int _) ?_; omega)) (.cons rfl (by first | rfl | (refine congrArg (Value.int _) ?_; omega)) .nil))
      · skip
        refine v_lit hw6 rfl rfl Try.underlying30 ti3 rfl (.cons rfl (by first | rfl | assumption) .nil) rfl rfl rfl (fun b7_4 w15 hw15 => ?_)
        try clear hw6
        refine l_nil ?_
        refine e_any (hw15.ok mem2) ?_
        refine a_one (L' := [true, true, true, true, true, false, false, false]) 3 (by kernel_rfl) rfl rfl ?_
        refine l_call rfl rfl Try.func13 rfl rfl (.cons rfl .nil) (ofR (A / 18446744073709551616) (A % 18446744073709551616) (by omega) (by omega) w15) ?_
        rintro vho w16 ⟨_, lho, rfl, hRho, hG⟩
        have hw16 := hG _ _ _ _ hw15
        try clear hG hw15
        simp only [List.cons_append, List.nil_append] at hw16
        rw [wide_back] at hRho
        have hl_ho := len_of_lt hRho (k := 128) (by rw [e128]; omega)
        refine l_nil ?_
        refine e_any (hw16.ok mem3) ?_
        refine a_one (L' := [true, true, true, true, true, true, false, false]) 5 (by kernel_rfl) rfl rfl ?_
        refine l_call rfl rfl Try.func20 rfl rfl (.cons rfl (.cons rfl .nil)) (sumR _ _ lho [1] _ 1 hRho R16_one (by omega) (by simp) w16 (hw16.io mem0) (hw16.ibl mem1)) ?_
        rintro vhi w17 ⟨_, lhi, rfl, hRhi, hG⟩
        have hw17 := hG _ _ _ _ hw16
        try clear hG hw16
        simp only [List.cons_append, List.nil_append] at hw17
        have hl_hi := len_of_lt hRhi (k := 129) (by rw [show (2 : Int) ^ 129 = 340282366920938463463374607431768211456 * 2 from by decide]; omega)
        refine l_nil ?_
        refine e_any (hw17.ok mem4) ?_
        apply a_take (L' := [true, true, true, true, true, true, true, false]) 6 rfl (by kernel_rfl) (by kernel_rfl) (by kernel_rfl) rfl rfl rfl rfl rfl (hw17.ok mem4)
        · intro wS sS
          refine l_assign rfl rfl rfl ?_
          refine l_nil ?_
          exact e_got rfl
        apply a_take (L' := [true, true, true, true, true, true, true, true]) 7 rfl (by kernel_rfl) (by kernel_rfl) (by kernel_rfl) rfl rfl rfl rfl rfl (hw17.ok mem4)
        · intro wS sS
          refine l_assign rfl rfl rfl ?_
          refine l_nil ?_
          exact e_got rfl
        refine a_done (by kernel_rfl) ?_
        have hw18 := St.frontL (l := [_, _, _, _]) hw17
        simp only [List.cons_append, List.nil_append] at hw18
        try clear hw17
        have hw19 := St.frontL (l := [_]) hw18
        simp only [List.cons_append, List.nil_append] at hw19
        try clear hw18
        have hw20 := St.frontL (l := [_, _, _, _]) hw19
        simp only [List.cons_append, List.nil_append] at hw20
        try clear hw19
        have hw21 := St.del (.tail (.tail (.tail (.tail .head)))) hw20
        try clear hw20
        have hw22 := St.del (.tail (.tail (.tail .head))) hw21
        try clear hw21
        refine e_meetk (vlo, llo, vhi, lhi) ?_ (.cons rfl (.cons rfl (.cons rfl .nil))) ?_
        · exact ⟨hw22, hRlo, hRhi⟩
        · exact (.cons rfl (by first | rfl | (refine congrArg (Value.int _) ?_; omega)) (.cons rfl (by first | rfl | (refine congrArg (Value.int _) ?_; omega)) .nil))
    · skip
      refine v_lit hw5 rfl rfl Try.underlying30 ti3 rfl (.cons rfl (by first | rfl | assumption) .nil) rfl rfl rfl (fun b7_4 w23 hw23 => ?_)
      try clear hw5
      refine l_nil ?_
      refine e_any (hw23.ok mem1) ?_
      refine a_one (L' := [true, true, true, false, true, false, false, false]) 1 (by kernel_rfl) rfl rfl ?_
      refine l_call rfl rfl Try.func13 rfl rfl (.cons rfl .nil) (ofR (A / 18446744073709551616) (A % 18446744073709551616) (by omega) (by omega) w23) ?_
      rintro vlo w24 ⟨_, llo, rfl, hRlo, hG⟩
      have hw24 := hG _ _ _ _ hw23
      try clear hG hw23
      simp only [List.cons_append, List.nil_append] at hw24
      rw [wide_back] at hRlo
      have hl_lo := len_of_lt hRlo (k := 128) (by rw [e128]; omega)
      refine l_nil ?_
      refine e_any (hw24.ok mem2) ?_
      refine a_one (L' := [true, true, true, true, true, false, false, false]) 3 (by kernel_rfl) rfl rfl ?_
      refine l_call rfl rfl Try.func13 rfl rfl (.cons rfl .nil) (ofR (A / 18446744073709551616) (A % 18446744073709551616) (by omega) (by omega) w24) ?_
      rintro vho w25 ⟨_, lho, rfl, hRho, hG⟩
      have hw25 := hG _ _ _ _ hw24
      try clear hG hw24
      simp only [List.cons_append, List.nil_append] at hw25
      rw [wide_back] at hRho
      have hl_ho := len_of_lt hRho (k := 128) (by rw [e128]; omega)
      refine l_nil ?_
      refine e_any (hw25.ok mem3) ?_
      refine a_one (L' := [true, true, true, true, true, true, false, false]) 5 (by kernel_rfl) rfl rfl ?_
      refine l_call rfl rfl Try.func20 rfl rfl (.cons rfl (.cons rfl .nil)) (sumR _ _ lho [1] _ 1 hRho R16_one (by omega) (by simp) w25 (hw25.io mem0) (hw25.ibl mem2)) ?_
      rintro vhi w26 ⟨_, lhi, rfl, hRhi, hG⟩
      have hw26 := hG _ _ _ _ hw25
      try clear hG hw25
      simp only [List.cons_append, List.nil_append] at hw26
      have hl_hi := len_of_lt hRhi (k := 129) (by rw [show (2 : Int) ^ 129 = 340282366920938463463374607431768211456 * 2 from by decide]; omega)
      refine l_nil ?_
      refine e_any (hw26.ok mem4) ?_
      apply a_take (L' := [true, true, true, true, true, true, true, false]) 6 rfl (by kernel_rfl) (by kernel_rfl) (by kernel_rfl) rfl rfl rfl rfl rfl (hw26.ok mem4)
      · intro wS sS
        refine l_assign rfl rfl rfl ?_
        refine l_nil ?_
        exact e_got rfl
      apply a_take (L' := [true, true, true, true, true, true, true, true]) 7 rfl (by kernel_rfl) (by kernel_rfl) (by kernel_rfl) rfl rfl rfl rfl rfl (hw26.ok mem4)
      · intro wS sS
        refine l_assign rfl rfl rfl ?_
        refine l_nil ?_
        exact e_got rfl
      refine a_done (by kernel_rfl) ?_
      have hw27 := St.frontL (l := [_, _, _, _]) hw26
      simp only [List.cons_append, List.nil_append] at hw27
      try clear hw26
      have hw28 := St.frontL (l := [_]) hw27
      simp only [List.cons_append, List.nil_append] at hw28
      try clear hw27
      have hw29 := St.frontL (l := [_, _, _]) hw28
      simp only [List.cons_append, List.nil_append] at hw29
      try clear hw28
      have hw30 := St.del (.tail (.tail (.tail (.tail .head)))) hw29
      try clear hw29
      have hw31 := St.del (.tail (.tail (.tail .head))) hw30
      try clear hw30
      refine e_meetk (vlo, llo, vhi, lhi) ?_ (.cons rfl (.cons rfl (.cons rfl .nil))) ?_
      · exact ⟨hw31, hRlo, hRhi⟩
      · exact (.cons rfl (by first | rfl | (refine congrArg (Value.int _) ?_; omega)) (.cons rfl (by first | rfl | (refine congrArg (Value.int _) ?_; omega)) .nil))
  rintro ⟨v1, l1, v2, l2⟩ w32 ⟨hw32, hR1, hR2⟩
  show RunC P _ _ _ (_ :: _) _
  refine c_cutk (ι := Value × List Int × Int × Value × List Int × Int) (fun (z0 : Value × List Int × Int × Value × List Int × Int) (w' : World) => match z0 with | ⟨v3, l3, m3, v4, l4, m4⟩ => St w w.heap.size None' ([As.ri 3 .i64 v3 l3, As.ri 3 .i64 v4 l4]) w' ∧ R16 l3 m3 ∧ R16 l4 m4 ∧ (q < 0 → m3 = A - 1 ∧ m4 = A) ∧ (0 ≤ q → m3 = A ∧ m4 = A + 1)) (fun (z0 : Value × List Int × Int × Value × List Int × Int) => match z0 with | ⟨v3, l3, m3, v4, l4, m4⟩ => [(7, v3), (8, v4)]) [3, 5] (.cons rfl (.cons rfl .nil)) ?_ ?_
  · skip
    refine c_seq ?_
    refine c_region ?_
    refine l_move rfl rfl rfl ?_
    refine l_lss rfl rfl rfl rfl ?_
    refine l_nil ?_
    refine e_then ?_
    refine c_keep [3, 4, 5, 7, 8, 43] (.cons rfl (.cons rfl (.cons rfl (.cons rfl (.cons rfl (.cons rfl .nil)))))) ?_
    first | refine c_cond rfl (fun hc2 => ?_) (fun hc2 => ?_) | refine c_condb rfl (fun hc2 => ?_) (fun hc2 => ?_)
    · skip
      have hw33 := hw32.drewn
      try clear hw32
      refine c_any (n := 8) [false, false, false, false, false, false, false, false] (fun wS => (As.blk b4_6 24 [.int .u64 (A / 18446744073709551616), .int .u64 (A % 18446744073709551616)]).ok wS) (by kernel_rfl) rfl rfl ?_
      apply a_take (L' := [true, false, false, false, false, false, false, false]) 0 rfl (by kernel_rfl) (by kernel_rfl) (by kernel_rfl) rfl rfl rfl rfl rfl (hw33.ok mem2)
      · intro wS sS
        refine l_load_agg (blk_st sS) mem0 rfl rfl Try.underlying24 rfl tz24 rfl (.take (.take .nil)) ?_
        refine l_nil ?_
        exact e_got rfl
      apply a_take (L' := [true, false, false, false, true, false, false, false]) 4 rfl (by kernel_rfl) (by kernel_rfl) (by kernel_rfl) rfl rfl rfl rfl rfl (hw33.ok mem2)
      · intro wS sS
        refine l_load_agg (blk_st sS) mem0 rfl rfl Try.underlying24 rfl tz24 rfl (.take (.take .nil)) ?_
        refine l_nil ?_
        exact e_got rfl
      refine a_two (L' := [true, true, false, false, true, false, false, false]) (L'' := [true, false, true, false, true, false, false, false]) 1 2 (by kernel_rfl) rfl rfl rfl rfl ?_ ?_
      · skip
        refine l_call rfl rfl Try.func13 rfl rfl (.cons rfl .nil) (ofR (A / 18446744073709551616) (A % 18446744073709551616) (by omega) (by omega) w32.drew) ?_
        rintro wo w34 ⟨_, lwo, rfl, hRwo, hG⟩
        have hw34 := hG _ _ _ _ hw33
        try clear hG hw33
        simp only [List.cons_append, List.nil_append] at hw34
        rw [wide_back] at hRwo
        have hl_wo := len_of_lt hRwo (k := 128) (by rw [e128]; omega)
        refine l_nil ?_
        refine e_any (hw34.ok mem3) ?_
        refine a_one (L' := [true, true, true, false, true, false, false, false]) 2 (by kernel_rfl) rfl rfl ?_
        refine v_lit hw34 rfl rfl Try.underlying30 ti3 rfl (.cons rfl (by first | rfl | assumption) .nil) rfl rfl rfl (fun b9_2 w35 hw35 => ?_)
        try clear hw34
        refine l_nil ?_
        refine e_any (hw35.ok mem4) ?_
        refine a_one (L' := [true, true, true, true, true, false, false, false]) 3 (by kernel_rfl) rfl rfl ?_
        refine l_call rfl rfl Try.func16 rfl rfl (.cons rfl (.cons rfl .nil)) (lessR _ _ lwo [1] _ 1 hRwo R16_one (by omega) (by simp) (by omega) w35 (hw35.io mem1) (hw35.ibl mem0)) ?_
        rintro wl w36 ⟨_, lwl, rfl, hRwl, hG⟩
        have hw36 := hG _ _ _ _ hw35
        try clear hG hw35
        simp only [List.cons_append, List.nil_append] at hw36
        refine l_nil ?_
        refine e_any (hw36.ok mem5) ?_
        refine a_one (L' := [true, true, true, true, true, true, false, false]) 5 (by kernel_rfl) rfl rfl ?_
        refine l_call rfl rfl Try.func13 rfl rfl (.cons rfl .nil) (ofR (A / 18446744073709551616) (A % 18446744073709551616) (by omega) (by omega) w36) ?_
        rintro wh w37 ⟨_, lwh, rfl, hRwh, hG⟩
        have hw37 := hG _ _ _ _ hw36
        try clear hG hw36
        simp only [List.cons_append, List.nil_append] at hw37
        rw [wide_back] at hRwh
        have hl_wh := len_of_lt hRwh (k := 128) (by rw [e128]; omega)
        refine l_nil ?_
        refine e_any (hw37.ok mem6) ?_
        apply a_take (L' := [true, true, true, true, true, true, true, false]) 6 rfl (by kernel_rfl) (by kernel_rfl) (by kernel_rfl) rfl rfl rfl rfl rfl (hw37.ok mem6)
        · intro wS sS
          refine l_assign rfl rfl rfl ?_
          refine l_nil ?_
          exact e_got rfl
        apply a_take (L' := [true, true, true, true, true, true, true, true]) 7 rfl (by kernel_rfl) (by kernel_rfl) (by kernel_rfl) rfl rfl rfl rfl rfl (hw37.ok mem6)
        · intro wS sS
          refine l_assign rfl rfl rfl ?_
          refine l_nil ?_
          exact e_got rfl
        refine a_done (by kernel_rfl) ?_
        have hw38 := St.frontL (l := [_, _, _, _, _]) hw37
        simp only [List.cons_append, List.nil_append] at hw38
        try clear hw37
        have hw39 := St.frontL (l := [_, _, _, _, _]) hw38
        simp only [List.cons_append, List.nil_append] at hw39
        try clear hw38
        have hw40 := St.frontL (l := [_, _]) hw39
        simp only [List.cons_append, List.nil_append] at hw40
        try clear hw39
        have hw41 := St.frontL (l := [_, _, _]) hw40
        simp only [List.cons_append, List.nil_append] at hw41
        try clear hw40
        have hw42 := St.del (.tail (.tail (.tail (.tail (.tail (.tail .head)))))) hw41
        try clear hw41
        have hw43 := St.del (.tail (.tail (.tail (.tail (.tail .head))))) hw42
        try clear hw42
        have hw44 := St.del (.tail (.tail (.tail (.tail .head)))) hw43
        try clear hw43
        have hw45 := St.del (.tail (.tail (.tail .head))) hw44
        try clear hw44
        have hw46 := St.del (.tail (.tail .head)) hw45
        try clear hw45
        refine e_meetk (wl, lwl, A - 1, wh, lwh, A) ?_ (.cons rfl (.cons rfl .nil)) ?_
        · exact ⟨hw46, hRwl, hRwh, fun _ => ⟨rfl, rfl⟩, by omega⟩
        · exact (.cons rfl (by first | rfl | (refine congrArg (Value.int _) ?_; omega)) (.cons rfl (by first | rfl | (refine congrArg (Value.int _) ?_; omega)) .nil))
      · skip
        refine v_lit hw33 rfl rfl Try.underlying30 ti3 rfl (.cons rfl (by first | rfl | assumption) .nil) rfl rfl rfl (fun b9_2 w47 hw47 => ?_)
        try clear hw33
        refine l_nil ?_
        refine e_any (hw47.ok mem3) ?_
        refine a_one (L' := [true, true, true, false, true, false, false, false]) 1 (by kernel_rfl) rfl rfl ?_
        refine l_call rfl rfl Try.func13 rfl rfl (.cons rfl .nil) (ofR (A / 18446744073709551616) (A % 18446744073709551616) (by omega) (by omega) w47) ?_
        rintro wo w48 ⟨_, lwo, rfl, hRwo, hG⟩
        have hw48 := hG _ _ _ _ hw47
        try clear hG hw47
        simp only [List.cons_append, List.nil_append] at hw48
        rw [wide_back] at hRwo
        have hl_wo := len_of_lt hRwo (k := 128) (by rw [e128]; omega)
        refine l_nil ?_
        refine e_any (hw48.ok mem4) ?_
        refine a_one (L' := [true, true, true, true, true, false, false, false]) 3 (by kernel_rfl) rfl rfl ?_
        refine l_call rfl rfl Try.func16 rfl rfl (.cons rfl (.cons rfl .nil)) (lessR _ _ lwo [1] _ 1 hRwo R16_one (by omega) (by simp) (by omega) w48 (hw48.io mem0) (hw48.ibl mem1)) ?_
        rintro wl w49 ⟨_, lwl, rfl, hRwl, hG⟩
        have hw49 := hG _ _ _ _ hw48
        try clear hG hw48
        simp only [List.cons_append, List.nil_append] at hw49
        refine l_nil ?_
        refine e_any (hw49.ok mem5) ?_
        refine a_one (L' := [true, true, true, true, true, true, false, false]) 5 (by kernel_rfl) rfl rfl ?_
        refine l_call rfl rfl Try.func13 rfl rfl (.cons rfl .nil) (ofR (A / 18446744073709551616) (A % 18446744073709551616) (by omega) (by omega) w49) ?_
        rintro wh w50 ⟨_, lwh, rfl, hRwh, hG⟩
        have hw50 := hG _ _ _ _ hw49
        try clear hG hw49
        simp only [List.cons_append, List.nil_append] at hw50
        rw [wide_back] at hRwh
        have hl_wh := len_of_lt hRwh (k := 128) (by rw [e128]; omega)
        refine l_nil ?_
        refine e_any (hw50.ok mem6) ?_
        apply a_take (L' := [true, true, true, true, true, true, true, false]) 6 rfl (by kernel_rfl) (by kernel_rfl) (by kernel_rfl) rfl rfl rfl rfl rfl (hw50.ok mem6)
        · intro wS sS
          refine l_assign rfl rfl rfl ?_
          refine l_nil ?_
          exact e_got rfl
        apply a_take (L' := [true, true, true, true, true, true, true, true]) 7 rfl (by kernel_rfl) (by kernel_rfl) (by kernel_rfl) rfl rfl rfl rfl rfl (hw50.ok mem6)
        · intro wS sS
          refine l_assign rfl rfl rfl ?_
          refine l_nil ?_
          exact e_got rfl
        refine a_done (by kernel_rfl) ?_
        have hw51 := St.frontL (l := [_, _, _, _, _]) hw50
        simp only [List.cons_append, List.nil_append] at hw51
        try clear hw50
        have hw52 := St.frontL (l := [_, _, _, _, _]) hw51
        simp only [List.cons_append, List.nil_append] at hw52
        try clear hw51
        have hw53 := St.frontL (l := [_, _]) hw52
        simp only [List.cons_append, List.nil_append] at hw53
        try clear hw52
        have hw54 := St.frontL (l := [_, _, _]) hw53
        simp only [List.cons_append, List.nil_append] at hw54
        try clear hw53
        have hw55 := St.del (.tail (.tail (.tail (.tail (.tail (.tail .head)))))) hw54
        try clear hw54
        have hw56 := St.del (.tail (.tail (.tail (.tail (.tail .head))))) hw55
        try clear hw55
        have hw57 := St.del (.tail (.tail (.tail (.tail .head)))) hw56
        try clear hw56
        have hw58 := St.del (.tail (.tail (.tail .head))) hw57
        try clear hw57
        have hw59 := St.del (.tail (.tail .head)) hw58
        try clear hw58
        refine e_meetk (wl, lwl, A - 1, wh, lwh, A) ?_ (.cons rfl (.cons rfl .nil)) ?_
        · exact ⟨hw59, hRwl, hRwh, fun _ => ⟨rfl, rfl⟩, by omega⟩
        · exact (.cons rfl (by first | rfl | (refine congrArg (Value.int _) ?_; omega)) (.cons rfl (by first | rfl | (refine congrArg (Value.int _) ?_; omega)) .nil))
    · skip
      refine c_skip ?_
      have hw60 := St.frontL (l := [_]) hw32
      simp only [List.cons_append, List.nil_append] at hw60
      try clear hw32
      have hw61 := St.frontL (l := [_]) hw60
      simp only [List.cons_append, List.nil_append] at hw61
      try clear hw60
      have hw62 := St.del (.tail (.tail .head)) hw61
      try clear hw61
      refine e_meetk (v1, l1, A, v2, l2, A + 1) ?_ (.cons rfl (.cons rfl .nil)) ?_
      · exact ⟨hw62, hR1, hR2, by omega, fun _ => ⟨rfl, rfl⟩⟩
      · exact (.cons rfl (by first | rfl | (refine congrArg (Value.int _) ?_; omega)) (.cons rfl (by first | rfl | (refine congrArg (Value.int _) ?_; omega)) .nil))
  rintro ⟨v3, l3, m3, v4, l4, m4⟩ w63 ⟨hw63, hR3, hR4, hmn, hmp⟩
  show RunC P _ _ _ (_ :: _) _
  refine c_seq ?_
  refine c_region ?_
  have hl_3 := len_of_lt hR3 (k := 129) (by rw [show (2 : Int) ^ 129 = 340282366920938463463374607431768211456 * 2 from by decide]; omega)
  have hl_4 := len_of_lt hR4 (k := 129) (by rw [show (2 : Int) ^ 129 = 340282366920938463463374607431768211456 * 2 from by decide]; omega)
  refine l_move rfl rfl rfl ?_
  refine l_call rfl rfl Try.func21 rfl rfl (.cons rfl .nil) (fiveR q (by omega) w63) ?_
  rintro vf w64 ⟨_, lf, rfl, hRf, hG⟩
  have hw64 := hG _ _ _ _ hw63
  try clear hG hw63
  simp only [List.cons_append, List.nil_append] at hw64
  have hb5 := five_blen q.toNat (by omega)
  have hl_f := hRf.len (k := 1203) (by omega)
  refine l_assign rfl rfl rfl ?_
  refine l_nil ?_
  refine e_then ?_
  refine c_keep [3, 5, 7, 8, 9] (.cons rfl (.cons rfl (.cons rfl (.cons rfl (.cons rfl .nil))))) ?_
  refine c_seq ?_
  refine c_seq ?_
  refine c_region ?_
  refine l_move rfl rfl rfl ?_
  refine l_lss rfl rfl rfl rfl ?_
  refine l_nil ?_
  refine e_then ?_
  refine c_keep [3, 5, 7, 8, 9, 53] (.cons rfl (.cons rfl (.cons rfl (.cons rfl (.cons rfl (.cons rfl .nil)))))) ?_
  first | refine c_cond rfl (fun hc3 => ?_) (fun hc3 => ?_) | refine c_condb rfl (fun hc3 => ?_) (fun hc3 => ?_)
  · skip
    refine c_seq ?_
    refine c_region ?_
    refine v_lit hw64 rfl rfl Try.underlying30 ti3 rfl (.cons rfl (by first | rfl | assumption) .nil) rfl rfl rfl (fun b12_0 w65 hw65 => ?_)
    try clear hw64
    refine l_move rfl rfl rfl ?_
    refine l_neg rfl rfl rfl (w_i64 (by omega)) ?_
    obtain ⟨k, hk⟩ : ∃ k : Nat, (-x).toNat = k := ⟨_, rfl⟩
    refine l_turn (s := 56) (v' := .int .i64 (k : Int)) rfl (by refine congrArg (Value.int _) ?_; omega) ?_
    have hmn2 := hmn (by omega)
    have hbq := hbn (by omega)
    rw [hk] at hbq
    refine l_call rfl rfl Try.func14 rfl rfl (.cons rfl (.cons rfl .nil)) (leftR _ [1] 1 R16_one (by simp) k (by omega) w65 (hw65.ibl mem0)) ?_
    rintro vo w66 ⟨_, lo, rfl, hRo, hG⟩
    have hw66 := hG _ _ _ _ hw65
    try clear hG hw65
    simp only [List.cons_append, List.nil_append] at hw66
    have hl_o := len_of_lt hRo (k := k + 1) (by rw [Int.one_mul, Int.pow_succ]; have := Ma.pow_pos (show (0 : Int) < 2 by omega) k; omega)
    refine l_assign rfl rfl rfl ?_
    refine l_nil ?_
    refine e_then ?_
    refine c_keep [3, 7, 8, 10] (.cons rfl (.cons rfl (.cons rfl (.cons rfl .nil)))) ?_
    refine c_seq ?_
    refine c_region ?_
    refine l_move rfl rfl rfl ?_
    refine l_neg rfl rfl rfl (w_i64 (by omega)) ?_
    refine l_call rfl rfl Try.func21 rfl rfl (.cons rfl .nil) (fiveR (0 - q) (by omega) w66) ?_
    rintro vp w67 ⟨_, lp, rfl, hRp, hG⟩
    have hw67 := hG _ _ _ _ hw66
    try clear hG hw66
    simp only [List.cons_append, List.nil_append] at hw67
    obtain ⟨j, hj⟩ : ∃ j : Nat, (-q).toNat = j := ⟨_, rfl⟩
    rw [show (0 - q).toNat = j from by omega] at hRp
    rw [hj] at hbq
    have hb5p := five_blen j (by omega)
    have hl_p := hRp.len (k := 1203) (by omega)
    refine l_assign rfl rfl rfl ?_
    refine l_nil ?_
    refine e_then ?_
    refine c_keep [3, 7, 8, 10, 11] (.cons rfl (.cons rfl (.cons rfl (.cons rfl (.cons rfl .nil))))) ?_
    refine c_seq ?_
    refine c_region ?_
    refine l_move rfl rfl rfl ?_
    refine l_move rfl rfl rfl ?_
    refine l_call rfl rfl Try.func12 rfl rfl (.cons rfl (.cons rfl .nil)) (prodR _ _ l3 lp _ _ hR3 hRp (by omega) (by omega) w67 (hw67.io mem4) (hw67.io mem0)) ?_
    rintro va w68 ⟨_, la, rfl, hRa, hG⟩
    have hw68 := hG _ _ _ _ hw67
    try clear hG hw67
    simp only [List.cons_append, List.nil_append] at hw68
    have hla := len_pr (b := 129) (c := 1203) hRa (hR3.nonneg (by omega)) (by rw [show (2 : Int) ^ 129 = 340282366920938463463374607431768211456 * 2 from by decide]; omega) (Int.le_of_lt (five_pos j)) ((Ma.blen_le_iff (Int.le_of_lt (five_pos _)) 1203).1 hb5p)
    refine l_move rfl rfl rfl ?_
    refine l_call rfl rfl Try.func15 rfl rfl (.cons rfl (.cons rfl .nil)) (cmpR _ _ la lo _ _ hRa hRo (by omega) (by omega) w68 (hw68.io mem0) (hw68.io mem2)) ?_
    rintro _ w69 ⟨rfl, hG⟩
    have hw69 := hG _ _ _ _ hw68
    try clear hG hw68
    simp only [List.cons_append, List.nil_append] at hw69
    refine l_lss rfl rfl rfl rfl ?_
    refine l_turn (s := 66) (v' := .bool true) rfl (by exact congrArg Value.bool (decide_eq_true (cmpI_neg.2 (by rw [hmn2.1, Int.one_mul]; exact hbq.1)))) ?_
    refine l_move rfl rfl rfl ?_
    refine l_move rfl rfl rfl ?_
    refine l_move rfl rfl rfl ?_
    refine l_call rfl rfl Try.func12 rfl rfl (.cons rfl (.cons rfl .nil)) (prodR _ _ l4 lp _ _ hR4 hRp (by omega) (by omega) w69 (hw69.io mem6) (hw69.io mem1)) ?_
    rintro vb w70 ⟨_, lb, rfl, hRb, hG⟩
    have hw70 := hG _ _ _ _ hw69
    try clear hG hw69
    simp only [List.cons_append, List.nil_append] at hw70
    have hlb := len_pr (b := 129) (c := 1203) hRb (hR4.nonneg (by omega)) (by rw [show (2 : Int) ^ 129 = 340282366920938463463374607431768211456 * 2 from by decide]; omega) (Int.le_of_lt (five_pos j)) ((Ma.blen_le_iff (Int.le_of_lt (five_pos _)) 1203).1 hb5p)
    refine l_move rfl rfl rfl ?_
    refine l_call rfl rfl Try.func15 rfl rfl (.cons rfl (.cons rfl .nil)) (cmpR _ _ lb lo _ _ hRb hRo (by omega) (by omega) w70 (hw70.io mem0) (hw70.io mem3)) ?_
    rintro _ w71 ⟨rfl, hG⟩
    have hw71 := hG _ _ _ _ hw70
    try clear hG hw70
    simp only [List.cons_append, List.nil_append] at hw71
    refine l_gtr rfl rfl rfl rfl ?_
    refine l_turn (s := 73) (v' := .bool true) rfl (by exact congrArg Value.bool (decide_eq_true (by rw [cmpI_gt (by rw [hmn2.2, Int.one_mul]; exact hbq.2)]; omega))) ?_
    refine l_pick_t rfl rfl rfl rfl ?_
    refine l_move rfl rfl rfl ?_
    refine l_move rfl rfl rfl ?_
    refine l_callp rfl rfl Try.func18 rfl rfl (.cons rfl .nil) (exactP q _) ?_
    first | refine l_notd rfl rfl rfl ?_ | refine l_not rfl rfl rfl ?_
    refine l_turn (s := 78) (v' := .bool true) rfl (by exact congrArg Value.bool (decide_eq_true (by omega))) ?_
    refine l_pick_t rfl rfl rfl rfl ?_
    refine l_move rfl rfl rfl ?_
    refine l_call rfl rfl Try.func11 rfl rfl .nil (wakes6 w71) ?_
    rintro _ w72 ⟨rfl, hG⟩
    have hw72 := hG _ _ _ _ hw71
    try clear hG hw71
    simp only [List.cons_append, List.nil_append] at hw72
    refine l_turn (s := 81) (v' := .bool true) rfl (by rfl) ?_
    refine l_pick_t rfl rfl rfl rfl ?_
    refine l_assign rfl rfl rfl ?_
    refine l_nil ?_
    refine e_then ?_
    refine c_keep [2] (.cons rfl .nil) ?_
    refine c_ret ?_
    refine e_then_ret ?_
    refine e_done1 Try.results5 rfl ?_
    refine ⟨_, rfl, ?_⟩
    have hw73 := St.del (.tail (.tail (.tail (.tail (.tail (.tail (.tail .head))))))) hw72
    try clear hw72
    have hw74 := St.del (.tail (.tail (.tail (.tail (.tail (.tail .head)))))) hw73
    try clear hw73
    have hw75 := St.del (.tail (.tail (.tail (.tail (.tail .head))))) hw74
    try clear hw74
    have hw76 := St.del (.tail (.tail (.tail (.tail .head)))) hw75
    try clear hw75
    have hw77 := St.del (.tail (.tail (.tail .head))) hw76
    try clear hw76
    have hw78 := St.del (.tail (.tail .head)) hw77
    try clear hw77
    have hw79 := St.del (.tail .head) hw78
    try clear hw78
    have hw80 := St.del .head hw79
    try clear hw79
    exact ⟨rfl, hw80.grows⟩
  · skip
    refine c_skip ?_
    refine e_then ?_
    refine c_keep [3, 5, 7, 8, 9] (.cons rfl (.cons rfl (.cons rfl (.cons rfl (.cons rfl .nil))))) ?_
    refine c_cutk (ι := Value × List Int × Int × Value × List Int × Int × Value × List Int × Int) (fun (z0 : Value × List Int × Int × Value × List Int × Int × Value × List Int × Int) (w' : World) => match z0 with | ⟨v5, l5, m5, v6, l6, m6, v7, l7, m7⟩ => St w w.heap.size None' ([As.ri 3 .i64 v5 l5, As.ri 3 .i64 v6 l6, As.ri 3 .i64 v7 l7]) w' ∧ R16 l5 m5 ∧ R16 l6 m6 ∧ R16 l7 m7 ∧ l5.length ≤ 2000 ∧ l6.length ≤ 2000 ∧ l7.length ≤ 2000 ∧ m5 ≤ m7 ∧ m7 < m6 ∧ (m5 = m7 ↔ q ≤ 55)) (fun (z0 : Value × List Int × Int × Value × List Int × Int × Value × List Int × Int) => match z0 with | ⟨v5, l5, m5, v6, l6, m6, v7, l7, m7⟩ => [(7, v5), (8, v6), (9, v7)]) [3] (.cons rfl .nil) ?_ ?_
    · skip
      refine c_seq ?_
      refine c_region ?_
      have hmp2 := hmp (by omega)
      refine l_move rfl rfl rfl ?_
      refine l_lss rfl rfl rfl rfl ?_
      refine l_nil ?_
      refine e_then ?_
      refine c_keep [3, 5, 7, 8, 9, 84] (.cons rfl (.cons rfl (.cons rfl (.cons rfl (.cons rfl (.cons rfl .nil)))))) ?_
      first | refine c_cond rfl (fun hc4 => ?_) (fun hc4 => ?_) | refine c_condb rfl (fun hc4 => ?_) (fun hc4 => ?_)
      · skip
        refine c_region ?_
        refine l_move rfl rfl rfl ?_
        refine l_move rfl rfl rfl ?_
        refine l_neg rfl rfl rfl (w_i64 (by omega)) ?_
        obtain ⟨k, hk⟩ : ∃ k : Nat, (-x).toNat = k := ⟨_, rfl⟩
        refine l_turn (s := 87) (v' := .int .i64 (k : Int)) rfl (by refine congrArg (Value.int _) ?_; omega) ?_
        have hbq := hbs (by omega) (by omega)
        rw [hk] at hbq
        refine l_call rfl rfl Try.func14 rfl rfl (.cons rfl (.cons rfl .nil)) (leftR vf lf _ hRf (by omega) k (by omega) w64 (hw64.io mem0)) ?_
        rintro v8 w81 ⟨_, l8, rfl, hR8, hG⟩
        have hw81 := hG _ _ _ _ hw64
        try clear hG hw64
        simp only [List.cons_append, List.nil_append] at hw81
        have hl_8 := len_sh (b := 1203) hR8 (Int.le_of_lt (five_pos _)) ((Ma.blen_le_iff (Int.le_of_lt (five_pos _)) 1203).1 hb5)
        refine l_assign rfl rfl rfl ?_
        refine l_nil ?_
        have hw82 := St.frontL (l := [_, _, _]) hw81
        simp only [List.cons_append, List.nil_append] at hw82
        try clear hw81
        have hw83 := St.frontL (l := [_, _, _]) hw82
        simp only [List.cons_append, List.nil_append] at hw83
        try clear hw82
        have hw84 := St.del (.tail (.tail (.tail .head))) hw83
        try clear hw83
        refine e_meetk (v3, l3, m3, v4, l4, m4, v8, l8, 5 ^ q.toNat * 2 ^ k) ?_ (.cons rfl .nil) ?_
        · rw [hmp2.1] at hR3 ⊢
          rw [hmp2.2] at hR4 ⊢
          exact ⟨hw84, hR3, hR4, hR8, by omega, by omega, by omega, hbq.1, hbq.2.1, hbq.2.2⟩
        · exact (.cons rfl (by first | rfl | (refine congrArg (Value.int _) ?_; omega)) (.cons rfl (by first | rfl | (refine congrArg (Value.int _) ?_; omega)) (.cons rfl (by first | rfl | (refine congrArg (Value.int _) ?_; omega)) .nil)))
      · skip
        refine c_region ?_
        refine l_move rfl rfl rfl ?_
        refine l_move rfl rfl rfl ?_
        obtain ⟨k, hk⟩ : ∃ k : Nat, x.toNat = k := ⟨_, rfl⟩
        refine l_turn (s := 90) (v' := .int .i64 (k : Int)) rfl (by refine congrArg (Value.int _) ?_; omega) ?_
        have hbq := hbp (by omega) (by omega)
        rw [hk] at hbq
        refine l_call rfl rfl Try.func14 rfl rfl (.cons rfl (.cons rfl .nil)) (leftR v3 l3 _ hR3 (by omega) k (by omega) w64 (hw64.io mem1)) ?_
        rintro vx w85 ⟨_, lx, rfl, hRx, hG⟩
        have hw85 := hG _ _ _ _ hw64
        try clear hG hw64
        simp only [List.cons_append, List.nil_append] at hw85
        have hl_x := len_sh (b := 129) hRx (by omega) (by rw [show (2 : Int) ^ 129 = 340282366920938463463374607431768211456 * 2 from by decide]; omega)
        refine l_move rfl rfl rfl ?_
        refine l_move rfl rfl rfl ?_
        refine l_turn (s := 93) (v' := .int .i64 (k : Int)) rfl (by refine congrArg (Value.int _) ?_; omega) ?_
        refine l_call rfl rfl Try.func14 rfl rfl (.cons rfl (.cons rfl .nil)) (leftR v4 l4 _ hR4 (by omega) k (by omega) w85 (hw85.io mem3)) ?_
        rintro vy w86 ⟨_, ly, rfl, hRy, hG⟩
        have hw86 := hG _ _ _ _ hw85
        try clear hG hw85
        simp only [List.cons_append, List.nil_append] at hw86
        have hl_y := len_sh (b := 129) hRy (by omega) (by rw [show (2 : Int) ^ 129 = 340282366920938463463374607431768211456 * 2 from by decide]; omega)
        refine l_assign rfl rfl rfl ?_
        refine l_assign rfl rfl rfl ?_
        refine l_nil ?_
        have hw87 := St.frontL (l := [_, _]) hw86
        simp only [List.cons_append, List.nil_append] at hw87
        try clear hw86
        have hw88 := St.frontL (l := [_]) hw87
        simp only [List.cons_append, List.nil_append] at hw88
        try clear hw87
        have hw89 := St.frontL (l := [_, _]) hw88
        simp only [List.cons_append, List.nil_append] at hw89
        try clear hw88
        have hw90 := St.del (.tail (.tail (.tail (.tail .head)))) hw89
        try clear hw89
        have hw91 := St.del (.tail (.tail (.tail .head))) hw90
        try clear hw90
        refine e_meetk (vx, lx, m3 * 2 ^ k, vy, ly, m4 * 2 ^ k, vf, lf, 5 ^ q.toNat) ?_ (.cons rfl .nil) ?_
        · rw [hmp2.1] at hRx ⊢
          rw [hmp2.2] at hRy ⊢
          exact ⟨hw91, hRx, hRy, hRf, by omega, by omega, by omega, hbq.1, hbq.2.1, hbq.2.2⟩
        · exact (.cons rfl (by first | rfl | (refine congrArg (Value.int _) ?_; omega)) (.cons rfl (by first | rfl | (refine congrArg (Value.int _) ?_; omega)) (.cons rfl (by first | rfl | (refine congrArg (Value.int _) ?_; omega)) .nil)))
    rintro ⟨v5, l5, m5, v6, l6, m6, v7, l7, m7⟩ w92 ⟨hw92, hR5, hR6, hR7, hl5, hl6, hl7, hle, hlt, hiff⟩
    show RunC P _ _ _ (_ :: _) _
    refine c_seq ?_
    refine c_region ?_
    refine l_move rfl rfl rfl ?_
    refine l_move rfl rfl rfl ?_
    refine l_call rfl rfl Try.func15 rfl rfl (.cons rfl (.cons rfl .nil)) (cmpR _ _ l5 l7 _ _ hR5 hR7 (by omega) (by omega) w92 (hw92.io mem0) (hw92.io mem2)) ?_
    rintro _ w93 ⟨rfl, hG⟩
    have hw93 := hG _ _ _ _ hw92
    try clear hG hw92
    simp only [List.cons_append, List.nil_append] at hw93
    refine l_assign rfl rfl rfl ?_
    refine l_nil ?_
    refine e_then ?_
    refine c_keep [3, 8, 9, 12] (.cons rfl (.cons rfl (.cons rfl (.cons rfl .nil)))) ?_
    refine c_seq ?_
    refine c_region ?_
    have hce : decide (cmpI m5 m7 = 0) = decide (0 ≤ q ∧ q ≤ 55) := by
      refine decide_eq_decide.2 ⟨fun h => ⟨by omega, hiff.1 ?_⟩, fun h => cmpI_eq (hiff.2 h.2)⟩
      rcases Int.lt_or_eq_of_le hle with h2 | h2
      · rw [cmpI_lt h2] at h; omega
      · exact h2
    refine l_move rfl rfl rfl ?_
    refine l_leq rfl rfl rfl rfl ?_
    refine l_turn (s := 99) (v' := .bool true) rfl (by exact congrArg Value.bool (decide_eq_true (cmpI_le hle))) ?_
    refine l_move rfl rfl rfl ?_
    refine l_move rfl rfl rfl ?_
    refine l_move rfl rfl rfl ?_
    refine l_call rfl rfl Try.func15 rfl rfl (.cons rfl (.cons rfl .nil)) (cmpR _ _ l6 l7 _ _ hR6 hR7 (by omega) (by omega) w93 (hw93.io mem1) (hw93.io mem2)) ?_
    rintro _ w94 ⟨rfl, hG⟩
    have hw94 := hG _ _ _ _ hw93
    try clear hG hw93
    simp only [List.cons_append, List.nil_append] at hw94
    refine l_gtr rfl rfl rfl rfl ?_
    refine l_turn (s := 104) (v' := .bool true) rfl (by exact congrArg Value.bool (decide_eq_true (by rw [cmpI_gt hlt]; omega))) ?_
    refine l_pick_t rfl rfl rfl rfl ?_
    refine l_move rfl rfl rfl ?_
    refine l_move rfl rfl rfl ?_
    refine l_eql rfl rfl rfl rfl ?_
    refine l_move rfl rfl rfl ?_
    refine l_callp rfl rfl Try.func18 rfl rfl (.cons rfl .nil) (exactP q _) ?_
    refine l_eqlb Try.underlying4 rfl rfl rfl rfl ?_
    refine l_turn (s := 111) (v' := .bool true) rfl (by rw [hce]; simp) ?_
    refine l_pick_t rfl rfl rfl rfl ?_
    refine l_move rfl rfl rfl ?_
    refine l_call rfl rfl Try.func11 rfl rfl .nil (wakes6 w94) ?_
    rintro _ w95 ⟨rfl, hG⟩
    have hw95 := hG _ _ _ _ hw94
    try clear hG hw94
    simp only [List.cons_append, List.nil_append] at hw95
    refine l_turn (s := 114) (v' := .bool true) rfl (by rfl) ?_
    refine l_pick_t rfl rfl rfl rfl ?_
    refine l_assign rfl rfl rfl ?_
    refine l_nil ?_
    refine e_then ?_
    refine c_keep [2] (.cons rfl .nil) ?_
    refine c_ret ?_
    refine e_done1 Try.results5 rfl ?_
    refine ⟨_, rfl, ?_⟩
    have hw96 := St.del (.tail (.tail .head)) hw95
    try clear hw95
    have hw97 := St.del (.tail .head) hw96
    try clear hw96
    have hw98 := St.del .head hw97
    try clear hw97
    exact ⟨rfl, hw98.grows⟩
end Go.Proofs.Ytellpcjmpmcpoaa.W
