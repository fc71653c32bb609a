/- walk of the reference's Pow -/
import Derived.Test.YtnddfmjmeghkjaaFi
set_option linter.unusedVariables false
set_option linter.unusedSimpArgs false
set_option maxRecDepth 10000
namespace Go.Proofs.Ytnddfmjmeghkjaa.W
open Go.Vc Go.RowKit

theorem blen_mul {x y : Int} (hx0 : 0 ≤ x) (hy0 : 0 ≤ y) {m n : Nat} (hx : Ma.blen x ≤ m) (hy : Ma.blen y ≤ n) : Ma.blen (x * y) ≤ (m + n : Nat) := by
  refine (Ma.blen_le_iff (Int.mul_nonneg hx0 hy0) (m + n)).2 ?_
  have h1 := (Ma.blen_le_iff hx0 m).1 hx
  have h2 := (Ma.blen_le_iff hy0 n).1 hy
  have h3 : x * y ≤ x * 2 ^ n := Int.mul_le_mul_of_nonneg_left (by omega) hx0
  have h4 : (x + 1) * 2 ^ n ≤ 2 ^ m * 2 ^ n := Int.mul_le_mul_of_nonneg_right (by omega) (by omega)
  have hp := Ma.pow_pos (show (0 : Int) < 2 by omega) n
  rw [Int.pow_add]
  rw [Int.add_mul] at h4
  omega

theorem powR (b n : Int) (hb : 0 ≤ b ∧ b ≤ 18446744073709551615) (hn : -9223372036854775808 ≤ n ∧ n ≤ 9223372036854775807) (w : World) :
    CallsV P 11 [.int .u64 b, .int .i64 n] w fun r w' => NatR w w' r (powS b n).1 (powS b n).2 := by
  refine enterW Try.func11 rfl Try.ntmps11 rfl ?_
  have hw0 := St.start w
  refine c_seq ?_
  refine c_region ?_
  refine l_assign rfl rfl rfl ?_
  refine l_assign rfl rfl rfl ?_
  refine l_nil ?_
  refine e_then ?_
  refine c_keep [0, 1] (.cons rfl (.cons rfl .nil)) ?_
  refine c_seq ?_
  refine c_seq ?_
  refine c_region ?_
  refine l_move rfl rfl rfl ?_
  refine l_lss rfl rfl rfl rfl ?_
  refine l_nil ?_
  refine e_then ?_
  refine c_keep [0, 1, 9] (.cons rfl (.cons rfl (.cons rfl .nil))) ?_
  first | refine c_cond rfl (fun hc0 => ?_) (fun hc0 => ?_) | refine c_condb rfl (fun hc0 => ?_) (fun hc0 => ?_)
  · skip
    refine c_seq ?_
    refine c_region ?_
    refine l_assign rfl rfl rfl ?_
    refine l_assign rfl rfl rfl ?_
    refine l_nil ?_
    refine e_then ?_
    refine c_keep [4, 5] (.cons rfl (.cons rfl .nil)) ?_
    refine c_ret ?_
    refine e_then_ret ?_
    refine e_done2 Try.results11 rfl rfl ?_
    refine ⟨_, rfl, ?_⟩
    rw [powS_neg hc0]
    exact ⟨_, _, rfl, Ma.Cn.nil, (hw0.nil 22).grows⟩
  · skip
    refine c_skip ?_
    refine e_then ?_
    refine c_keep [0, 1] (.cons rfl (.cons rfl .nil)) ?_
    refine c_seq ?_
    refine c_seq ?_
    refine c_region ?_
    refine l_move rfl rfl rfl ?_
    refine l_eql rfl rfl rfl rfl ?_
    refine l_move rfl rfl rfl ?_
    apply l_and 2 [0, 1] rfl rfl (.cons rfl (.cons rfl (.cons rfl .nil))) rfl rfl (fun _ => rfl) rfl rfl rfl
    · intro hg3_3
      refine l_move rfl rfl rfl ?_
      refine l_gtr rfl rfl rfl rfl ?_
      refine l_nil ?_
      exact e_stays rfl (.cons rfl (congrArg Value.bool (decide_eq_true hg3_3).symm) (.cons rfl rfl (.cons rfl rfl .nil)))
    refine l_nil ?_
    refine e_then ?_
    refine c_keep [0, 1, 15] (.cons rfl (.cons rfl (.cons rfl .nil))) ?_
    first | refine c_cond rfl (fun hc1 => ?_) (fun hc1 => ?_) | refine c_condb rfl (fun hc1 => ?_) (fun hc1 => ?_)
    · skip
      refine c_seq ?_
      refine c_region ?_
      refine l_assign rfl rfl rfl ?_
      refine l_assign rfl rfl rfl ?_
      refine l_nil ?_
      refine e_then ?_
      refine c_keep [4, 5] (.cons rfl (.cons rfl .nil)) ?_
      refine c_ret ?_
      refine e_then_ret ?_
      refine e_done2 Try.results11 rfl rfl ?_
      refine ⟨_, rfl, ?_⟩
      have hz : b ^ n.toNat = 0 := by
        obtain ⟨m, hm⟩ : ∃ m, n.toNat = m + 1 := ⟨n.toNat - 1, by omega⟩
        rw [hm, Int.pow_succ, hc1.1, Int.mul_zero]
      rw [powS_ok hc0 (by rw [hz]; decide), hz]
      exact ⟨_, _, rfl, Ma.Cn.nil, (hw0.nil 22).grows⟩
    · skip
      refine c_skip ?_
      refine e_then ?_
      refine c_keep [0, 1] (.cons rfl (.cons rfl .nil)) ?_
      refine c_seq ?_
      refine c_seq ?_
      refine c_region ?_
      refine l_move rfl rfl rfl ?_
      refine l_eql rfl rfl rfl rfl ?_
      refine l_nil ?_
      refine e_then ?_
      refine c_keep [0, 1, 17] (.cons rfl (.cons rfl (.cons rfl .nil))) ?_
      first | refine c_cond rfl (fun hc2 => ?_) (fun hc2 => ?_) | refine c_condb rfl (fun hc2 => ?_) (fun hc2 => ?_)
      · skip
        refine c_seq ?_
        refine c_region ?_
        refine v_lit hw0 rfl rfl Try.underlying25 ti22 rfl (.cons rfl (by first | rfl | assumption) .nil) rfl rfl rfl (fun b6_0 w1 hw1 => ?_)
        try clear hw0
        refine l_assign rfl rfl rfl ?_
        refine l_assign rfl rfl rfl ?_
        refine l_nil ?_
        refine e_then ?_
        refine c_keep [4, 5] (.cons rfl (.cons rfl .nil)) ?_
        refine c_ret ?_
        refine e_then_ret ?_
        refine e_done2 Try.results11 rfl rfl ?_
        refine ⟨_, rfl, ?_⟩
        subst hc2
        rw [powS_ok hc0 (by rw [Int.one_pow]; decide), Int.one_pow]
        exact ⟨_, [1], rfl, Cn1, (hw1.blk_own (by decide)).grows⟩
      · skip
        refine c_skip ?_
        refine e_then ?_
        refine c_keep [0, 1] (.cons rfl (.cons rfl .nil)) ?_
        refine c_seq ?_
        refine c_region ?_
        refine v_lit hw0 rfl rfl Try.underlying35 ti3 rfl (.cons rfl (by first | rfl | assumption) .nil) rfl rfl rfl (fun b7_0 w2 hw2 => ?_)
        try clear hw0
        refine l_assign rfl rfl rfl ?_
        refine l_nil ?_
        refine e_then ?_
        refine c_keep [0, 1, 6] (.cons rfl (.cons rfl (.cons rfl .nil))) ?_
        refine c_seq ?_
        refine c_seq ?_
        refine c_region ?_
        refine l_assign rfl rfl rfl ?_
        refine l_nil ?_
        refine e_then ?_
        refine c_block ?_
        refine c_loopk (ι := Nat × List Int × Value) (fun (z0 : Nat × List Int × Value) => match z0 with | ⟨k, lx, vx⟩ => n.toNat - k) (fun (z0 : Nat × List Int × Value) (w' : World) => match z0 with | ⟨k, lx, vx⟩ => St w w.heap.size None' ([As.ri 3 .i64 vx lx]) w' ∧ (k : Int) ≤ n ∧ R16 lx (b ^ k) ∧ Ma.blen (b ^ k) ≤ 8192) (fun (z0 : Nat × List Int × Value) => match z0 with | ⟨k, lx, vx⟩ => [(6, vx), (7, .int .i64 (k : Int))]) [0, 1] (0, [1], .slice (some ⟨b7_0, 0, none⟩) 1 1) ?_ (.cons rfl (.cons rfl .nil)) ?_ ?_
        · exact ⟨hw2.blk_own (by decide), by omega, by rw [Int.pow_zero]; exact R16one, by rw [Int.pow_zero]; decide⟩
        · exact (.cons rfl (by first | rfl | (refine congrArg (Value.int _) ?_; omega)) (.cons rfl (by first | rfl | (refine congrArg (Value.int _) ?_; omega)) .nil))
        rintro ⟨k, lx, vx⟩ w3 ⟨hw3, hk, hRx, hbx⟩
        show RunC P _ _ _ (_ :: _) _
        refine c_seq ?_
        refine c_seq ?_
        refine c_region ?_
        have hlx := hRx.len (k := 8192) hbx
        refine l_move rfl rfl rfl ?_
        refine l_move rfl rfl rfl ?_
        refine l_lss rfl rfl rfl rfl ?_
        refine l_nil ?_
        refine e_then ?_
        refine c_keep [0, 1, 6, 7, 22] (.cons rfl (.cons rfl (.cons rfl (.cons rfl (.cons rfl .nil))))) ?_
        first | refine c_cond rfl (fun hc3 => ?_) (fun hc3 => ?_) | refine c_condb rfl (fun hc3 => ?_) (fun hc3 => ?_)
        · skip
          refine c_skip ?_
          refine e_then ?_
          refine c_keep [0, 1, 6, 7] (.cons rfl (.cons rfl (.cons rfl (.cons rfl .nil)))) ?_
          refine c_seq ?_
          refine c_block ?_
          refine c_seq ?_
          refine c_region ?_
          have hbb : Ma.blen b ≤ 64 := (Ma.blen_le_iff (n := b) (by omega) 64).2 (by omega)
          refine l_move rfl rfl rfl ?_
          refine l_move rfl rfl rfl ?_
          refine v_lit hw3 rfl rfl Try.underlying25 ti22 rfl (.cons rfl (by first | rfl | assumption) .nil) rfl rfl rfl (fun b11_2 w4 hw4 => ?_)
          try clear hw3
          refine l_call rfl rfl Try.func16 rfl rfl (.cons rfl .nil) (numR _ [b] (U.one hb) (by simp) w4 (hw4.ibl mem0)) ?_
          rintro vn w5 ⟨_, ln, rfl, hRn, hG⟩
          have hw5 := hG _ _ _ _ hw4
          try clear hG hw4
          simp only [List.cons_append, List.nil_append] at hw5
          refine l_call rfl rfl Try.func40 rfl rfl (.cons rfl (.cons rfl .nil)) (prodR _ _ _ _ _ _ hRx hRn (by omega) (by have := R16.len_num (U.one hb) hRn; simp at this; omega) w5 (hw5.io mem2) (hw5.io mem0)) ?_
          rintro vp w6 ⟨_, lp, rfl, hRp, hG⟩
          have hw6 := hG _ _ _ _ hw5
          try clear hG hw5
          simp only [List.cons_append, List.nil_append] at hw6
          refine l_assign rfl rfl rfl ?_
          refine l_nil ?_
          refine e_then ?_
          refine c_keep [0, 1, 6, 7] (.cons rfl (.cons rfl (.cons rfl (.cons rfl .nil)))) ?_
          refine c_seq ?_
          refine c_region ?_
          have hR2 : R16 lp (b ^ (k + 1)) := by rw [Int.pow_succ]; simpa [Ma.vb] using hRp
          have hb2 : Ma.blen (b ^ (k + 1)) ≤ 8256 := by rw [Int.pow_succ]; exact blen_mul (hRx.nonneg (by omega)) hb.1 (m := 8192) (n := 64) hbx hbb
          refine l_move rfl rfl rfl ?_
          refine l_callp rfl rfl Try.func41 rfl rfl (.cons rfl .nil) (bitsR _ _ _ hR2 (by have := hR2.len (k := 8256) hb2; omega) w6 (hw6.io mem0)) ?_
          refine l_gtr rfl rfl rfl rfl ?_
          refine l_nil ?_
          refine e_then ?_
          refine c_keep [0, 1, 6, 7, 32] (.cons rfl (.cons rfl (.cons rfl (.cons rfl (.cons rfl .nil))))) ?_
          first | refine c_cond rfl (fun hc4 => ?_) (fun hc4 => ?_) | refine c_condb rfl (fun hc4 => ?_) (fun hc4 => ?_)
          · skip
            refine c_seq ?_
            refine c_region ?_
            refine l_assign rfl rfl rfl ?_
            refine l_assign rfl rfl rfl ?_
            refine l_nil ?_
            refine e_then ?_
            refine c_keep [4, 5] (.cons rfl (.cons rfl .nil)) ?_
            refine c_ret ?_
            refine e_blk_ret ?_
            refine e_then_ret ?_
            refine e_then_ret ?_
            refine e_blk_ret ?_
            refine e_then_ret ?_
            refine e_done2 Try.results11 rfl rfl ?_
            refine ⟨_, rfl, ?_⟩
            have hw7 := St.del (.tail (.tail (.tail .head))) hw6
            try clear hw6
            have hw8 := St.del (.tail (.tail .head)) hw7
            try clear hw7
            have hw9 := St.del (.tail .head) hw8
            try clear hw8
            have hw10 := St.del .head hw9
            try clear hw9
            have hb2' : 2 ≤ b ∨ b = 0 := by omega
            have hpm : b ^ (k + 1) ≤ b ^ n.toNat := by
              rcases hb2' with h | h
              · exact pow_mono_b (by omega) (by omega)
              · omega
            have := Ma.blen_mono (hR2.nonneg (by omega)) hpm
            rw [powS_long hc0 (by omega)]
            exact ⟨_, _, rfl, Ma.Cn.nil, (hw10.nil 22).grows⟩
          · skip
            refine c_skip ?_
            refine e_blk ?_
            refine e_then ?_
            refine c_keep [0, 1, 6, 7] (.cons rfl (.cons rfl (.cons rfl (.cons rfl .nil)))) ?_
            refine c_region ?_
            refine l_move rfl rfl rfl ?_
            refine l_add rfl rfl rfl rfl (w_i64 (by omega)) ?_
            refine l_assign rfl rfl rfl ?_
            refine l_nil ?_
            have hw11 := St.del (.tail (.tail (.tail .head))) hw6
            try clear hw6
            have hw12 := St.del (.tail (.tail .head)) hw11
            try clear hw11
            have hw13 := St.del (.tail .head) hw12
            try clear hw12
            refine e_againk (i := (k, lx, vx)) (k + 1, lp, vp) ?_ ?_ (.cons rfl (.cons rfl .nil)) ?_
            · first | omega | (simp; omega)
            · exact ⟨hw13, by omega, hR2, by omega⟩
            · exact (.cons rfl (by first | rfl | (refine congrArg (Value.int _) ?_; omega)) (.cons rfl (by first | rfl | (refine congrArg (Value.int _) ?_; omega)) .nil))
        · skip
          refine c_exit ?_
          refine e_then_exit ?_
          refine e_then_exit ?_
          refine e_blk_exit ?_
          refine e_then ?_
          refine c_keep [6] (.cons rfl .nil) ?_
          refine c_seq ?_
          refine c_region ?_
          refine l_move rfl rfl rfl ?_
          refine l_call rfl rfl Try.func15 rfl rfl (.cons rfl .nil) (wordsR vx lx _ hRx (by omega) w3 (hw3.io mem0)) ?_
          rintro vw w14 ⟨_, ls, rfl, hcn, hG⟩
          have hw14 := hG _ _ _ _ hw3
          try clear hG hw3
          simp only [List.cons_append, List.nil_append] at hw14
          refine l_assign rfl rfl rfl ?_
          refine l_assign rfl rfl rfl ?_
          refine l_nil ?_
          refine e_then ?_
          refine c_keep [4, 5] (.cons rfl (.cons rfl .nil)) ?_
          refine c_ret ?_
          refine e_done2 Try.results11 rfl rfl ?_
          refine ⟨_, rfl, ?_⟩
          have hw15 := St.del (.tail .head) hw14
          try clear hw14
          have hkn : n.toNat = k := by omega
          rw [powS_ok hc0 (by rw [hkn]; exact hbx), hkn]
          exact ⟨_, _, rfl, hcn, hw15.grows⟩
end Go.Proofs.Ytnddfmjmeghkjaa.W
