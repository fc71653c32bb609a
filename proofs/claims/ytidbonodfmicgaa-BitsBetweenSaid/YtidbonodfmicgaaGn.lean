/- walk of the law BitsBack -/
import Derived.Test.YtidbonodfmicgaaGm
set_option linter.unusedVariables false
set_option linter.unusedSimpArgs false
set_option maxRecDepth 10000
namespace Go.Proofs.Ytidbonodfmicgaa.W
open Go.Vc Go.RowKit

theorem splitQ (k b : Int) (hb : 0 ≤ b ∧ b ≤ 18446744073709551615) (w : World) : CallsV P 19 [.int .i64 k, .int .u64 b] w fun r w' => ∃ neg man exp e, r = .tuple #[.agg #[.bool neg, .int .u64 man, .int .i64 exp], .int .i64 e] ∧ splF k b = (neg, man, exp, e) ∧ Grow w w' [] := by
  refine (splitB k b hb w).mono ?_
  rintro r w' ⟨rfl, hG⟩
  exact ⟨_, _, _, _, rfl, rfl, hG⟩
theorem tup4 {α β γ δ : Type} {a a' : α} {b b' : β} {c c' : γ} {e e' : δ} (h : (a, b, c, e) = (a', b', c', e')) : a = a' ∧ b = b' ∧ c = c' ∧ e = e' := by
  injection h with h1 h2
  injection h2 with h2 h3
  injection h3 with h3 h4
  exact ⟨h1, h2, h3, h4⟩
theorem small_blen {x : Int} (h0 : 0 ≤ x) (h : x < 2 ^ 2000) : Ma.blen x ≤ 2000 := (Ma.blen_le_iff h0 2000).2 h
theorem frac_small {man m : Int} {e : Nat} (hm : 0 ≤ man ∧ man ≤ 9007199254740992) (hmm : 0 ≤ m ∧ m ≤ 18446744073709551615) (he : e ≤ 1200) : 0 ≤ man * m * 2 ^ e ∧ man * m * 2 ^ e + 2 ^ e < 2 ^ 2000 := by
  have hp := p2 e
  have h0 := Int.mul_nonneg hm.1 hmm.1
  have h1 : man * m ≤ 9007199254740992 * 18446744073709551615 := Int.mul_le_mul hm.2 hmm.2 hmm.1 (by omega)
  have h2 : (man * m + 1) * 2 ^ e ≤ 2 ^ 120 * 2 ^ e := Int.mul_le_mul_of_nonneg_right (by rw [show (2 : Int) ^ 120 = 1329227995784915872903807060280344576 by rfl]; omega) (Int.le_of_lt hp)
  rw [← Int.pow_add, Int.add_mul, Int.one_mul] at h2
  have h3 := Ma.pow_mono (show (1 : Int) ≤ 2 by omega) (show 120 + e ≤ 1999 by omega)
  have h4 : (2 : Int) ^ 2000 = 2 ^ 1999 * 2 := Int.pow_succ ..
  have h5 := p2 1999
  have := Int.mul_nonneg h0 (Int.le_of_lt hp)
  omega

theorem bitsBackL (n a m : Int) (hn : -9223372036854775808 ≤ n ∧ n ≤ 9223372036854775807) (ha : 0 ≤ a ∧ a ≤ 18446744073709551615) (hm : 0 ≤ m ∧ m ≤ 18446744073709551615) (w : World) :
    CallsV P 6 [.int .i64 n, .int .u64 a, .int .u64 m] w fun r w' => r = .bool true ∧ Grow w w' [] := by
  refine enterW Try.func6 rfl Try.ntmps6 rfl ?_
  have hw0 := St.start w
  obtain ⟨d, hk⟩ := kd_fit n
  have hbd := d.bd
  have hfa := fit_bd hk ha
  refine c_seq ?_
  refine c_region ?_
  refine l_assign rfl rfl rfl ?_
  refine l_nil ?_
  refine e_then ?_
  refine c_keep [0, 1, 2] (.cons rfl (.cons rfl (.cons rfl .nil))) ?_
  refine c_seq ?_
  refine c_region ?_
  refine l_move rfl rfl rfl ?_
  refine l_bits rfl rfl rfl rfl rfl (and_i1 hn) ?_
  refine l_add rfl rfl rfl rfl (w_i64 (by omega)) ?_
  refine l_assign rfl rfl rfl ?_
  refine l_nil ?_
  refine e_then ?_
  refine c_keep [1, 2, 7] (.cons rfl (.cons rfl (.cons rfl .nil))) ?_
  refine c_seq ?_
  refine c_region ?_
  refine l_move rfl rfl rfl ?_
  refine l_move rfl rfl rfl ?_
  refine l_callp rfl rfl Try.func17 rfl rfl (.cons rfl (.cons rfl .nil)) (fit3 (9 + n % 2) a ha w) ?_
  refine l_assign rfl rfl rfl ?_
  refine l_nil ?_
  refine e_then ?_
  refine c_keep [1, 2, 7] (.cons rfl (.cons rfl (.cons rfl .nil))) ?_
  refine c_seq ?_
  refine c_region ?_
  obtain ⟨a2, hae⟩ : ∃ x, x = (if 9 + n % 2 = 9 then a % 4294967296 else a) := ⟨_, rfl⟩
  refine l_turn (s := 1) (v' := .int .u64 a2) rfl (by rw [hae]) ?_
  rw [← hae] at hfa
  have ha2 := hfa
  have hma := mod_S d ha2
  have hcl : clsF (9 + n % 2) a2 = (cls d a2, 0) := ofk_ok hk (chk_some hk ha2.2)
  have hcf := cls_fin (d := d) (a := a2) (by omega)
  refine l_move rfl rfl rfl ?_
  refine l_move rfl rfl rfl ?_
  refine l_call rfl rfl Try.func19 rfl rfl (.cons rfl (.cons rfl .nil)) (splitQ (9 + n % 2) a2 (by omega) w) ?_
  rintro _ w1 ⟨neg, man, exp, e, rfl, hq, hG⟩
  have hw1 := hG _ _ _ _ hw0
  try clear hG hw0
  simp only [List.cons_append, List.nil_append] at hw1
  refine l_move rfl rfl rfl ?_
  refine l_extract rfl rfl rfl rfl ?_
  refine l_extract rfl rfl rfl rfl ?_
  refine l_alloc hw1 ta34 rfl rfl (fun b3_6 w2 hw2 => ?_)
  try clear hw1
  refine l_store_blks hw2 .head (.zero (.zero (.zero .nil))) rfl tz34 rfl rfl (by first | (simp [Value.oneCell']; done) | (intro u hu; simp only [List.mem_cons, List.not_mem_nil, or_false] at hu; rcases hu with rfl | rfl | rfl <;> first | rfl | assumption)) (fun w3 hw3 => ?_)
  try clear hw2
  refine l_assign rfl rfl rfl ?_
  refine l_nil ?_
  refine e_then ?_
  refine c_keep [1, 2, 7, 8, 9] (.cons rfl (.cons rfl (.cons rfl (.cons rfl (.cons rfl .nil))))) ?_
  refine c_seq ?_
  refine c_seq ?_
  refine c_region ?_
  refine l_move rfl rfl rfl ?_
  refine l_move rfl rfl rfl ?_
  refine l_call rfl rfl Try.func25 rfl rfl (.cons rfl (.cons rfl .nil)) (classB (9 + n % 2) a2 (by omega) w3) ?_
  rintro _ w4 ⟨rfl, hG⟩
  have hw4 := hG _ _ _ _ hw3
  try clear hG hw3
  simp only [List.cons_append, List.nil_append] at hw4
  rw [hcl]
  refine l_move rfl rfl rfl ?_
  refine l_extract rfl rfl rfl rfl ?_
  refine l_extract rfl rfl rfl rfl ?_
  refine l_assign rfl rfl rfl ?_
  refine l_assign rfl rfl rfl ?_
  refine l_nil ?_
  refine e_then ?_
  refine c_keep [1, 2, 7, 8, 9, 10] (.cons rfl (.cons rfl (.cons rfl (.cons rfl (.cons rfl (.cons rfl .nil)))))) ?_
  refine c_seq ?_
  refine c_region ?_
  refine l_move rfl rfl rfl ?_
  refine l_eql rfl rfl rfl rfl ?_
  refine l_move rfl rfl rfl ?_
  apply l_or 2 [1, 2, 7, 8, 9] rfl rfl (.cons rfl (.cons rfl (.cons rfl (.cons rfl (.cons rfl (.cons rfl .nil)))))) rfl rfl (fun _ => rfl) rfl rfl rfl
  · intro hg5_3
    refine l_move rfl rfl rfl ?_
    refine l_eql rfl rfl rfl rfl ?_
    refine l_nil ?_
    exact e_stays rfl (.cons rfl (congrArg Value.bool (decide_eq_false hg5_3).symm) (.cons rfl rfl (.cons rfl rfl (.cons rfl rfl (.cons rfl rfl (.cons rfl rfl .nil))))))
  refine l_nil ?_
  refine e_then ?_
  refine c_keep [1, 2, 7, 8, 9, 41] (.cons rfl (.cons rfl (.cons rfl (.cons rfl (.cons rfl (.cons rfl .nil)))))) ?_
  first | refine c_cond rfl (fun hc0 => ?_) (fun hc0 => ?_) | refine c_condb rfl (fun hc0 => ?_) (fun hc0 => ?_)
  · skip
    refine c_seq ?_
    refine c_region ?_
    have hspN : splF (9 + n % 2) a2 = (false, 0, 0, 32) := by
      unfold splF
      rw [ofk_ok hk (chk_some hk ha2.2), if_pos (hcf.1 hc0)]
    rw [hspN] at hq
    obtain ⟨_, _, _, rfl⟩ := tup4 hq
    refine l_move rfl rfl rfl ?_
    refine l_callp rfl rfl Try.func13 rfl rfl (.cons rfl .nil) (num3 _ _) ?_
    refine l_eql rfl rfl rfl rfl ?_
    refine l_turn (s := 44) (v' := .bool true) rfl (by rfl) ?_
    refine l_move rfl rfl rfl ?_
    refine l_call rfl rfl Try.func14 rfl rfl .nil (wakes3 w4) ?_
    rintro _ w5 ⟨rfl, hG⟩
    have hw5 := hG _ _ _ _ hw4
    try clear hG hw4
    simp only [List.cons_append, List.nil_append] at hw5
    refine l_turn (s := 46) (v' := .bool true) rfl (by rfl) ?_
    refine l_pick_t rfl rfl rfl rfl ?_
    refine l_assign rfl rfl rfl ?_
    refine l_nil ?_
    refine e_then ?_
    refine c_keep [6] (.cons rfl .nil) ?_
    refine c_ret ?_
    refine e_then_ret ?_
    refine e_done1 Try.results6 rfl ?_
    refine ⟨_, rfl, ?_⟩
    have hw6 := St.del .head hw5
    try clear hw5
    exact ⟨rfl, hw6.grows⟩
  · skip
    refine c_skip ?_
    refine e_then ?_
    refine c_keep [1, 2, 7, 8, 9] (.cons rfl (.cons rfl (.cons rfl (.cons rfl (.cons rfl .nil))))) ?_
    refine c_seq ?_
    refine c_region ?_
    have hf : a2 % d.S < d.I := by
      have := fun h => hc0 (hcf.2 h)
      rcases Int.lt_or_le (a2 % d.S) d.I with h | h
      · exact h
      · exact absurd h this
    rw [spl_any hk ha2 hf] at hq
    obtain ⟨hng', hmn', hex', rfl⟩ := tup4 hq
    have hng := hng'.symm
    have hmn := hmn'.symm
    have hex := hex'.symm
    have hfs := fv_spl d (b := a2 % d.S) (by omega)
    rw [← hmn, ← hex] at hfs
    refine l_move rfl rfl rfl ?_
    refine l_load_agg hw4 mem0 rfl rfl Try.underlying34 rfl tz34 rfl (.take (.take (.take .nil))) ?_
    refine l_call rfl rfl Try.func15 rfl rfl (.cons rfl (.cons rfl .nil)) (joinB (9 + n % 2) neg man exp (by omega) (by omega) w4) ?_
    rintro _ w7 ⟨res, rfl, hJ, hG⟩
    have hw7 := hG _ _ _ _ hw4
    try clear hG hw4
    simp only [List.cons_append, List.nil_append] at hw7
    obtain rfl := hJ.unique (show JoinR (9 + n % 2) neg man exp (a2, true, 0) by rw [hng, hmn, hex]; exact join_back hk ha2 hf)
    refine l_move rfl rfl rfl ?_
    refine l_extract rfl rfl rfl rfl ?_
    refine l_extract rfl rfl rfl rfl ?_
    refine l_extract rfl rfl rfl rfl ?_
    refine l_assign rfl rfl rfl ?_
    refine l_assign rfl rfl rfl ?_
    refine l_assign rfl rfl rfl ?_
    refine l_nil ?_
    refine e_then ?_
    refine c_keep [1, 2, 7, 8, 9, 12, 13, 14] (.cons rfl (.cons rfl (.cons rfl (.cons rfl (.cons rfl (.cons rfl (.cons rfl (.cons rfl .nil)))))))) ?_
    refine c_seq ?_
    refine c_seq ?_
    refine c_region ?_
    refine l_move rfl rfl rfl ?_
    refine l_callp rfl rfl Try.func13 rfl rfl (.cons rfl .nil) (num3 _ _) ?_
    refine l_neq rfl rfl rfl rfl ?_
    refine l_turn (s := 57) (v' := .bool false) rfl (by simp) ?_
    refine l_move rfl rfl rfl ?_
    refine l_move rfl rfl rfl ?_
    refine l_callp rfl rfl Try.func13 rfl rfl (.cons rfl .nil) (num3 _ _) ?_
    refine l_neq rfl rfl rfl rfl ?_
    refine l_turn (s := 61) (v' := .bool false) rfl (by simp) ?_
    refine l_pick_f rfl rfl rfl rfl ?_
    refine l_move rfl rfl rfl ?_
    refine l_move rfl rfl rfl ?_
    refine l_move rfl rfl rfl ?_
    refine l_neq rfl rfl rfl rfl ?_
    refine l_turn (s := 66) (v' := .bool false) rfl (by simp) ?_
    refine l_pick_f rfl rfl rfl rfl ?_
    refine l_move rfl rfl rfl ?_
    refine l_move rfl rfl rfl ?_
    first | refine l_notd rfl rfl rfl ?_ | refine l_not rfl rfl rfl ?_
    refine l_turn (s := 70) (v' := .bool false) rfl (by rfl) ?_
    refine l_pick_f rfl rfl rfl rfl ?_
    refine l_nil ?_
    refine e_then ?_
    refine c_keep [1, 2, 7, 8, 71] (.cons rfl (.cons rfl (.cons rfl (.cons rfl (.cons rfl .nil))))) ?_
    refine c_cond_f rfl rfl ?_
    refine c_skip ?_
    refine e_then ?_
    refine c_keep [1, 2, 7, 8] (.cons rfl (.cons rfl (.cons rfl (.cons rfl .nil)))) ?_
    refine c_cutk (ι := Int) (fun (m2 : Int) (w' : World) => St w w.heap.size None' ([As.blk b3_6 34 [.bool neg, .int .u64 man, .int .i64 exp]]) w' ∧ 3 ≤ m2 ∧ m2 ≤ 18446744073709551615) (fun (m2 : Int) => [(2, .int .u64 m2)]) [1, 7, 8] (.cons rfl (.cons rfl (.cons rfl .nil))) ?_ ?_
    · skip
      refine c_seq ?_
      refine c_region ?_
      refine l_move rfl rfl rfl ?_
      refine l_lss rfl rfl rfl rfl ?_
      refine l_nil ?_
      refine e_then ?_
      refine c_keep [1, 2, 7, 8, 73] (.cons rfl (.cons rfl (.cons rfl (.cons rfl (.cons rfl .nil))))) ?_
      first | refine c_cond rfl (fun hc2 => ?_) (fun hc2 => ?_) | refine c_condb rfl (fun hc2 => ?_) (fun hc2 => ?_)
      · skip
        refine c_region ?_
        refine l_assign rfl rfl rfl ?_
        refine l_nil ?_
        refine e_meetk (3) ?_ (.cons rfl (.cons rfl (.cons rfl .nil))) ?_
        · exact ⟨hw7, by omega⟩
        · exact (.cons rfl (by first | rfl | (refine congrArg (Value.int _) ?_; omega)) .nil)
      · skip
        refine c_skip ?_
        refine e_meetk (m) ?_ (.cons rfl (.cons rfl (.cons rfl .nil))) ?_
        · exact ⟨hw7, by omega⟩
        · exact (.cons rfl (by first | rfl | (refine congrArg (Value.int _) ?_; omega)) .nil)
    rintro m2 w8 ⟨hw8, hm3⟩
    show RunC P _ _ _ (_ :: _) _
    refine c_seq ?_
    refine c_region ?_
    refine l_load_agg hw8 mem0 rfl rfl Try.underlying34 rfl tz34 rfl (.take (.take (.take .nil))) ?_
    refine l_move rfl rfl rfl ?_
    refine l_call rfl rfl Try.func20 rfl rfl (.cons rfl (.cons rfl .nil)) (fraction3 neg man exp m2 (by omega) (by omega) (by omega) w8) ?_
    rintro _ w9 ⟨vx, lx, vy, ly, rfl, hcx, hcy, hG⟩
    have hw9 := hG _ _ _ _ hw8
    try clear hG hw8
    simp only [List.cons_append, List.nil_append] at hw9
    have hvx : nv lx = man * m2 * 2 ^ exp.toNat := hcx.val
    have hvy : nv ly = m2 * 2 ^ (0 - exp).toNat := hcy.val
    have hbk := back_facts d (b := a2 % d.S) (by omega) hm3.1 (x := man * m2 * 2 ^ exp.toNat) (y := m2 * 2 ^ (0 - exp).toNat) (by rw [hmn, hex]) (by rw [hex])
    rw [← hex] at hbk
    have hsx := frac_small (man := man) (m := m2) (e := exp.toNat) (by omega) (by omega) (by omega)
    have hsy := frac_small (man := 1) (m := m2) (e := (0 - exp).toNat) (by omega) (by omega) (by omega)
    rw [Int.one_mul] at hsy
    have hpx := p2 exp.toNat
    have hpy := p2 (0 - exp).toNat
    have hbx := small_blen (x := nv lx) (by omega) (by omega)
    have hby := small_blen (x := nv ly) (by omega) (by omega)
    have hlx := cn_len64 hcx (k := 2000) (by rw [← hvx]; exact hbx)
    have hly := cn_len64 hcy (k := 2000) (by rw [← hvy]; exact hby)
    refine l_move rfl rfl rfl ?_
    refine l_extract rfl rfl rfl rfl ?_
    refine l_extract rfl rfl rfl rfl ?_
    refine l_assign rfl rfl rfl ?_
    refine l_assign rfl rfl rfl ?_
    refine l_nil ?_
    refine e_then ?_
    refine c_keep [1, 7, 8, 15, 16] (.cons rfl (.cons rfl (.cons rfl (.cons rfl (.cons rfl .nil))))) ?_
    refine c_seq ?_
    refine c_region ?_
    refine l_move rfl rfl rfl ?_
    refine l_field fo34_0 rfl rfl rfl ?_
    refine l_load_blk hw9 mem2 rfl rfl Try.underlying4 rfl rfl rfl ?_
    refine l_move rfl rfl rfl ?_
    refine l_move rfl rfl rfl ?_
    refine l_call rfl rfl Try.func11 rfl rfl (.cons rfl (.cons rfl (.cons rfl (.cons rfl .nil)))) (roundB (9 + n % 2) neg vx vy lx ly (U.of_dg hcx.dg) (U.of_dg hcy.dg) (by omega) (by omega) w9 (hw9.io mem1) (hw9.io mem0)) ?_
    rintro _ w10 ⟨res, rfl, hJ, hG⟩
    have hw10 := hG _ _ _ _ hw9
    try clear hG hw9
    simp only [List.cons_append, List.nil_append] at hw10
    have his := RoundR.is (neg := neg) hk (x := nv lx) (y := nv ly) (by omega) (by omega) (by rw [hvx, hvy]; exact hbk.2.2.1)
    rw [hng, sg_back ha2] at his
    rw [← hng] at his
    obtain rfl := hJ.unique (by omega) his
    refine l_move rfl rfl rfl ?_
    refine l_extract rfl rfl rfl rfl ?_
    refine l_extract rfl rfl rfl rfl ?_
    refine l_extract rfl rfl rfl rfl ?_
    refine l_assign rfl rfl rfl ?_
    refine l_assign rfl rfl rfl ?_
    refine l_assign rfl rfl rfl ?_
    refine l_nil ?_
    refine e_then ?_
    refine c_keep [1, 7, 8, 12, 13, 14, 15, 16] (.cons rfl (.cons rfl (.cons rfl (.cons rfl (.cons rfl (.cons rfl (.cons rfl (.cons rfl .nil)))))))) ?_
    refine c_seq ?_
    refine c_seq ?_
    refine c_region ?_
    refine l_move rfl rfl rfl ?_
    refine l_callp rfl rfl Try.func13 rfl rfl (.cons rfl .nil) (num3 _ _) ?_
    refine l_neq rfl rfl rfl rfl ?_
    refine l_turn (s := 92) (v' := .bool false) rfl (by simp) ?_
    refine l_move rfl rfl rfl ?_
    refine l_move rfl rfl rfl ?_
    refine l_move rfl rfl rfl ?_
    refine l_neq rfl rfl rfl rfl ?_
    refine l_turn (s := 96) (v' := .bool false) rfl (by simp) ?_
    refine l_pick_f rfl rfl rfl rfl ?_
    refine l_move rfl rfl rfl ?_
    refine l_move rfl rfl rfl ?_
    first | refine l_notd rfl rfl rfl ?_ | refine l_not rfl rfl rfl ?_
    refine l_turn (s := 100) (v' := .bool false) rfl (by rfl) ?_
    refine l_pick_f rfl rfl rfl rfl ?_
    refine l_nil ?_
    refine e_then ?_
    refine c_keep [1, 7, 8, 15, 16, 101] (.cons rfl (.cons rfl (.cons rfl (.cons rfl (.cons rfl (.cons rfl .nil)))))) ?_
    refine c_cond_f rfl rfl ?_
    refine c_skip ?_
    refine e_then ?_
    refine c_keep [1, 7, 8, 15, 16] (.cons rfl (.cons rfl (.cons rfl (.cons rfl (.cons rfl .nil))))) ?_
    refine c_seq ?_
    have hw11 := hw10.drewn
    try clear hw10
    refine c_any (n := 8) [false, false, false, false, false, false, false, false] (fun wS => (As.blk b3_6 34 [.bool neg, .int .u64 man, .int .i64 exp]).ok wS) (by kernel_rfl) rfl rfl ?_
    apply a_take (L' := [true, false, false, false, false, false, false, false]) 0 rfl (by kernel_rfl) (by kernel_rfl) (by kernel_rfl) rfl rfl rfl rfl rfl (hw11.ok mem2)
    · intro wS sS
      refine l_move rfl rfl rfl ?_
      refine l_nil ?_
      exact e_got rfl
    apply a_take (L' := [true, false, true, false, false, false, false, false]) 2 rfl (by kernel_rfl) (by kernel_rfl) (by kernel_rfl) rfl rfl rfl rfl rfl (hw11.ok mem2)
    · intro wS sS
      refine l_field fo34_2 rfl rfl rfl ?_
      refine l_nil ?_
      exact e_got rfl
    apply a_take (L' := [true, false, true, true, false, false, false, false]) 3 rfl (by kernel_rfl) (by kernel_rfl) (by kernel_rfl) rfl rfl rfl rfl rfl (hw11.ok mem2)
    · intro wS sS
      refine l_load_blk (blk_st sS) mem0 rfl rfl Try.underlying3 rfl rfl rfl ?_
      refine l_nil ?_
      exact e_got rfl
    refine a_one (L' := [true, true, true, true, false, false, false, false]) 1 (by kernel_rfl) rfl rfl ?_
    refine l_call rfl rfl Try.func23 rfl rfl (.cons rfl .nil) (numR vx lx (U.of_dg hcx.dg) (by omega) w10.drew (hw11.io mem1)) ?_
    rintro vn w12 ⟨_, ln, rfl, hRn, hG⟩
    have hw12 := hG _ _ _ _ hw11
    try clear hG hw11
    simp only [List.cons_append, List.nil_append] at hw12
    refine l_nil ?_
    refine e_any (hw12.ok mem3) ?_
    refine a_one (L' := [true, true, true, true, true, false, false, false]) 4 (by kernel_rfl) rfl rfl ?_
    refine l_call rfl rfl Try.func26 rfl rfl (.cons rfl .nil) (shifted3 exp (by omega) w12) ?_
    rintro vs w13 ⟨_, ls, rfl, hRs, hls, hG⟩
    have hw13 := hG _ _ _ _ hw12
    try clear hG hw12
    simp only [List.cons_append, List.nil_append] at hw13
    refine l_nil ?_
    refine e_any (hw13.ok mem4) ?_
    refine a_one (L' := [true, true, true, true, true, true, false, false]) 5 (by kernel_rfl) rfl rfl ?_
    refine l_call rfl rfl Try.func22 rfl rfl (.cons rfl (.cons rfl .nil)) (sumR _ _ _ _ _ _ hRn hRs (by have := R16.len_num (U.of_dg hcx.dg) hRn; omega) (by omega) w13 (hw13.io mem1) (hw13.io mem0)) ?_
    rintro vt w14 ⟨_, lt, rfl, hRt, hG⟩
    have hw14 := hG _ _ _ _ hw13
    try clear hG hw13
    simp only [List.cons_append, List.nil_append] at hw14
    refine l_nil ?_
    refine e_any (hw14.ok mem5) ?_
    refine a_one (L' := [true, true, true, true, true, true, true, false]) 6 (by kernel_rfl) rfl rfl ?_
    refine l_call rfl rfl Try.func21 rfl rfl (.cons rfl .nil) (wordsR vt lt _ hRt (by have := hRt.len_lt (k := 2000) (by show nv lx + _ < _; rw [hvx]; exact hsx.2); omega) w14 (hw14.io mem0)) ?_
    rintro vu w15 ⟨_, lu, rfl, hcu, hG⟩
    have hw15 := hG _ _ _ _ hw14
    try clear hG hw14
    simp only [List.cons_append, List.nil_append] at hw15
    have hvu : nv lu = man * m2 * 2 ^ exp.toNat + 2 ^ exp.toNat := by
      have h : nv lu = nv lx + 2 ^ exp.toNat := hcu.val
      rw [h, hvx]
    have hbu := small_blen (x := nv lu) (by omega) (by omega)
    have hlu := cn_len64 hcu (k := 2000) (by have h : nv lu = nv lx + 2 ^ exp.toNat := hcu.val; show Ma.blen (nv lx + _) ≤ _; rw [← h]; exact hbu)
    refine l_nil ?_
    refine e_any (hw15.ok mem6) ?_
    apply a_take (L' := [true, true, true, true, true, true, true, true]) 7 rfl (by kernel_rfl) (by kernel_rfl) (by kernel_rfl) rfl rfl rfl rfl rfl (hw15.ok mem6)
    · intro wS sS
      refine l_assign rfl rfl rfl ?_
      refine l_nil ?_
      exact e_got rfl
    refine a_done (by kernel_rfl) ?_
    refine e_then ?_
    refine c_keep [1, 7, 8, 16, 17] (.cons rfl (.cons rfl (.cons rfl (.cons rfl (.cons rfl .nil))))) ?_
    refine c_seq ?_
    refine c_region ?_
    refine l_move rfl rfl rfl ?_
    refine l_field fo34_0 rfl rfl rfl ?_
    refine l_load_blk hw15 mem6 rfl rfl Try.underlying4 rfl rfl rfl ?_
    refine l_move rfl rfl rfl ?_
    refine l_move rfl rfl rfl ?_
    refine l_call rfl rfl Try.func11 rfl rfl (.cons rfl (.cons rfl (.cons rfl (.cons rfl .nil)))) (roundB (9 + n % 2) neg vu vy lu ly (U.of_dg hcu.dg) (U.of_dg hcy.dg) (by omega) (by omega) w15 (hw15.io mem0) (hw15.io mem4)) ?_
    rintro _ w16 ⟨res, rfl, hJ, hG⟩
    have hw16 := hG _ _ _ _ hw15
    try clear hG hw15
    simp only [List.cons_append, List.nil_append] at hw16
    have his := RoundR.is (neg := neg) hk (x := nv lu) (y := nv ly) (by omega) (by omega) (by rw [hvu, hvy]; exact hbk.2.2.2)
    rw [hng, sg_back ha2] at his
    rw [← hng] at his
    obtain rfl := hJ.unique (by omega) his
    refine l_move rfl rfl rfl ?_
    refine l_extract rfl rfl rfl rfl ?_
    refine l_extract rfl rfl rfl rfl ?_
    refine l_extract rfl rfl rfl rfl ?_
    refine l_assign rfl rfl rfl ?_
    refine l_assign rfl rfl rfl ?_
    refine l_assign rfl rfl rfl ?_
    refine l_nil ?_
    refine e_then ?_
    refine c_keep [1, 12, 13, 14] (.cons rfl (.cons rfl (.cons rfl (.cons rfl .nil)))) ?_
    refine c_seq ?_
    refine c_region ?_
    refine l_move rfl rfl rfl ?_
    refine l_callp rfl rfl Try.func13 rfl rfl (.cons rfl .nil) (num3 _ _) ?_
    refine l_eql rfl rfl rfl rfl ?_
    refine l_turn (s := 121) (v' := .bool true) rfl (by simp) ?_
    refine l_move rfl rfl rfl ?_
    refine l_move rfl rfl rfl ?_
    refine l_move rfl rfl rfl ?_
    refine l_eql rfl rfl rfl rfl ?_
    refine l_turn (s := 125) (v' := .bool true) rfl (by simp) ?_
    refine l_pick_t rfl rfl rfl rfl ?_
    refine l_move rfl rfl rfl ?_
    refine l_move rfl rfl rfl ?_
    first | refine l_notd rfl rfl rfl ?_ | refine l_not rfl rfl rfl ?_
    refine l_turn (s := 129) (v' := .bool true) rfl (by rfl) ?_
    refine l_pick_t rfl rfl rfl rfl ?_
    refine l_move rfl rfl rfl ?_
    refine l_call rfl rfl Try.func14 rfl rfl .nil (wakes3 w16) ?_
    rintro _ w17 ⟨rfl, hG⟩
    have hw17 := hG _ _ _ _ hw16
    try clear hG hw16
    simp only [List.cons_append, List.nil_append] at hw17
    refine l_turn (s := 132) (v' := .bool true) rfl (by rfl) ?_
    refine l_pick_t rfl rfl rfl rfl ?_
    refine l_assign rfl rfl rfl ?_
    refine l_nil ?_
    refine e_then ?_
    refine c_keep [6] (.cons rfl .nil) ?_
    refine c_ret ?_
    refine e_done1 Try.results6 rfl ?_
    refine ⟨_, rfl, ?_⟩
    have hw18 := St.del (.tail (.tail (.tail (.tail (.tail (.tail .head)))))) hw17
    try clear hw17
    have hw19 := St.del (.tail (.tail (.tail (.tail (.tail .head))))) hw18
    try clear hw18
    have hw20 := St.del (.tail (.tail (.tail (.tail .head)))) hw19
    try clear hw19
    have hw21 := St.del (.tail (.tail (.tail .head))) hw20
    try clear hw20
    have hw22 := St.del (.tail (.tail .head)) hw21
    try clear hw21
    have hw23 := St.del (.tail .head) hw22
    try clear hw22
    have hw24 := St.del .head hw23
    try clear hw23
    exact ⟨rfl, hw24.grows⟩
end Go.Proofs.Ytidbonodfmicgaa.W
