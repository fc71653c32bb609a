/- walks of the document's short: Ten, Fraction, Check, abs, reads, Reads, top, shorter -/
import Derived.Test.YtmcbdgpcbcldjaaHd
set_option linter.unusedVariables false
set_option linter.unusedSimpArgs false
set_option maxRecDepth 10000
namespace Go.Proofs.Ytmcbdgpcbcldjaa.W
open Go.Vc Go.RowKit

theorem ivor {w w1 : World} {v u : Value} {l lu : List Int} (h : (u = v ∧ lu = l) ∨ IV w v (ints .i64 l)) (h1 : IV w1 u (ints .i64 lu)) (h2 : IV w v (ints .i64 l) → IV w1 v (ints .i64 l)) : IV w1 v (ints .i64 l) := by
  rcases h with ⟨rfl, rfl⟩ | h
  · exact h1
  · exact h2 h
theorem chkL {l : List Int} {n : Int} (h : R16 l n) {k : Nat} (hb : Ma.blen n ≤ k) : 16 * l.length ≤ k + 16 := h.len hb
theorem clsF_chk (k b : Int) (hb : 0 ≤ b ∧ b ≤ 18446744073709551615) : (clsF k b).2 = chk k b := by
  unfold clsF
  by_cases h : chk k b = 0
  · obtain ⟨d, hd, _⟩ := chk_ok h hb.2
    rw [ofk_ok hd h, h]
  · rw [ofk_bad h]
theorem mod_mod_S {d : Kd} {b : Int} : b % d.S % d.S = b % d.S := Int.emod_emod_of_dvd _ (Int.dvd_refl _)

theorem tenR (n : Int) (hn : n ≤ 1200) (w : World) :
    CallsV P 25 [.int .i64 n] w fun r w' => ∃ v ls, r = v ∧ R16 ls (10 ^ n.toNat) ∧ Grow w w' [As.ri 3 .i64 v ls] := by
  refine enterW Try.func25 rfl Try.ntmps25 rfl ?_
  have hw0 := St.start w
  refine c_seq ?_
  refine c_region ?_
  refine l_assign rfl rfl rfl ?_
  refine l_nil ?_
  refine e_then ?_
  refine c_keep [0] (.cons rfl .nil) ?_
  refine c_seq ?_
  refine c_region ?_
  refine v_lit hw0 rfl rfl Try.underlying46 ti3 rfl (.cons rfl (by first | rfl | assumption) .nil) rfl rfl rfl (fun b1_0 w1 hw1 => ?_)
  try clear hw0
  have hw2 := hw1.blk_own (by decide)
  try clear hw1
  refine l_assign rfl rfl rfl ?_
  refine l_nil ?_
  refine e_then ?_
  refine c_keep [0, 3] (.cons rfl (.cons rfl .nil)) ?_
  refine c_seq ?_
  refine c_seq ?_
  refine c_region ?_
  refine l_assign rfl rfl rfl ?_
  refine l_nil ?_
  refine e_then ?_
  refine c_block ?_
  refine c_loopk (ι := Nat × List Int × Value) (fun (z0 : Nat × List Int × Value) => match z0 with | ⟨k, lx, vx⟩ => n.toNat - k) (fun (z0 : Nat × List Int × Value) (w' : World) => match z0 with | ⟨k, lx, vx⟩ => St w w.heap.size None' ([As.ri 3 .i64 vx lx]) w' ∧ ((k : Int) ≤ n ∨ k = 0) ∧ R16 lx (10 ^ k)) (fun (z0 : Nat × List Int × Value) => match z0 with | ⟨k, lx, vx⟩ => [(3, vx), (4, .int .i64 (k : Int))]) [0] (0, [1], .slice (some ⟨b1_0, 0, none⟩) 1 1) ?_ (.cons rfl .nil) ?_ ?_
  · exact ⟨hw2, .inr rfl, by rw [Int.pow_zero]; exact R16.one1⟩
  · exact (.cons rfl (by first | rfl | (refine congrArg (Value.int _) ?_; omega)) (.cons rfl (by first | rfl | (refine congrArg (Value.int _) ?_; omega)) .nil))
  rintro ⟨k, lx, vx⟩ w3 ⟨hw3, hk, hRx⟩
  show RunC P _ _ _ (_ :: _) _
  have hb10 := blen_10 k
  have hlx := hRx.len (k := 4801) (by omega)
  refine c_seq ?_
  refine c_seq ?_
  refine c_region ?_
  refine l_move rfl rfl rfl ?_
  refine l_move rfl rfl rfl ?_
  refine l_lss rfl rfl rfl rfl ?_
  refine l_nil ?_
  refine e_then ?_
  refine c_keep [0, 3, 4, 8] (.cons rfl (.cons rfl (.cons rfl (.cons rfl .nil)))) ?_
  first | refine c_cond rfl (fun hc0 => ?_) (fun hc0 => ?_) | refine c_condb rfl (fun hc0 => ?_) (fun hc0 => ?_)
  · skip
    refine c_skip ?_
    refine e_then ?_
    refine c_keep [0, 3, 4] (.cons rfl (.cons rfl (.cons rfl .nil))) ?_
    refine c_seq ?_
    refine c_block ?_
    refine c_region ?_
    refine l_move rfl rfl rfl ?_
    refine v_lit hw3 rfl rfl Try.underlying46 ti3 rfl (.cons rfl (by first | rfl | assumption) .nil) rfl rfl rfl (fun b5_1 w4 hw4 => ?_)
    try clear hw3
    refine l_call rfl rfl Try.func24 rfl rfl (.cons rfl (.cons rfl .nil)) (prodR _ _ lx [10] _ 10 hRx R16.ten (by omega) (by simp) w4 (hw4.io mem1) (hw4.ibl mem0)) ?_
    rintro vp w5 ⟨_, lp, rfl, hRp, hG⟩
    have hw5 := hG _ _ _ _ hw4
    try clear hG hw4
    simp only [List.cons_append, List.nil_append] at hw5
    refine l_assign rfl rfl rfl ?_
    refine l_nil ?_
    refine e_blk ?_
    refine e_then ?_
    refine c_keep [0, 3, 4] (.cons rfl (.cons rfl (.cons rfl .nil))) ?_
    refine c_region ?_
    refine l_move rfl rfl rfl ?_
    refine l_add rfl rfl rfl rfl (w_i64 (by omega)) ?_
    refine l_assign rfl rfl rfl ?_
    refine l_nil ?_
    have hw6 := St.del (.tail (.tail .head)) hw5
    try clear hw5
    have hw7 := St.del (.tail .head) hw6
    try clear hw6
    refine e_againk (i := (k, lx, vx)) (k + 1, lp, vp) ?_ ?_ (.cons rfl .nil) ?_
    · first | omega | (simp; omega)
    · exact ⟨hw7, .inl (by omega), by rw [Int.pow_succ]; exact hRp⟩
    · exact (.cons rfl (by first | rfl | (refine congrArg (Value.int _) ?_; omega)) (.cons rfl (by first | rfl | (refine congrArg (Value.int _) ?_; omega)) .nil))
  · skip
    refine c_exit ?_
    refine e_then_exit ?_
    refine e_then_exit ?_
    refine e_blk_exit ?_
    refine e_then ?_
    refine c_keep [3] (.cons rfl .nil) ?_
    refine c_seq ?_
    refine c_region ?_
    refine l_move rfl rfl rfl ?_
    refine l_assign rfl rfl rfl ?_
    refine l_nil ?_
    refine e_then ?_
    refine c_keep [2] (.cons rfl .nil) ?_
    refine c_ret ?_
    refine e_done1 Try.results25 rfl ?_
    refine ⟨_, rfl, ?_⟩
    obtain rfl : n.toNat = k := by omega
    exact ⟨_, _, rfl, hRx, hw3.grows⟩
theorem frac10 (neg : Bool) (man exp : Int) (hm : 0 ≤ man ∧ man ≤ 18446744073709551615) (he : -2000 ≤ exp ∧ exp ≤ 2000) (w : World) :
    CallsV P 19 [.agg #[.bool neg, .int .u64 man, .int .i64 exp]] w fun r w' => ∃ v1 l1 v2 l2, r = .tuple #[v1, v2] ∧ R16 l1 (man * 2 ^ exp.toNat) ∧ R16 l2 (2 ^ (-exp).toNat) ∧ Grow w w' [As.ri 3 .i64 v2 l2, As.ri 3 .i64 v1 l1] := by
  refine enterW Try.func19 rfl Try.ntmps19 rfl ?_
  have hw0 := St.start w
  refine c_seq ?_
  refine c_region ?_
  refine l_box hw0 rfl rfl rfl (fun b0_0 w1 hw1 => ?_)
  try clear hw0
  refine l_assign rfl rfl rfl ?_
  refine l_assign rfl rfl rfl ?_
  refine l_nil ?_
  refine e_then ?_
  refine c_keep [1] (.cons rfl .nil) ?_
  refine c_seq ?_
  refine c_region ?_
  refine l_field fo27_1 rfl rfl rfl ?_
  refine l_load_blk hw1 mem0 rfl rfl Try.underlying22 rfl rfl rfl ?_
  refine v_lit hw1 rfl rfl Try.underlying66 ti22 rfl (.cons rfl (by first | rfl | assumption) .nil) rfl rfl rfl (fun b1_2 w2 hw2 => ?_)
  try clear hw1
  refine l_call rfl rfl Try.func23 rfl rfl (.cons rfl .nil) (numR _ [man] (U.one hm) (by simp) w2 (hw2.ibl mem0)) ?_
  rintro vx w3 ⟨_, lx, rfl, hRx, hG⟩
  have hw3 := hG _ _ _ _ hw2
  try clear hG hw2
  simp only [List.cons_append, List.nil_append] at hw3
  have hRx2 : R16 lx (man) := by have := hRx; rw [show Ma.vb 18446744073709551616 [man] = man from nv_one _] at this; exact this
  have hlx := R16.len_num (U.one hm) hRx
  simp only [List.length_cons, List.length_nil] at hlx
  refine l_assign rfl rfl rfl ?_
  refine l_nil ?_
  refine e_then ?_
  refine c_keep [1, 4] (.cons rfl (.cons rfl .nil)) ?_
  refine c_seq ?_
  refine c_seq ?_
  refine c_region ?_
  refine l_field fo27_2 rfl rfl rfl ?_
  refine l_load_blk hw3 mem2 rfl rfl Try.underlying3 rfl rfl rfl ?_
  refine l_geq rfl rfl rfl rfl ?_
  refine l_nil ?_
  refine e_then ?_
  refine c_keep [1, 4, 11] (.cons rfl (.cons rfl (.cons rfl .nil))) ?_
  first | refine c_cond rfl (fun hc0 => ?_) (fun hc0 => ?_) | refine c_condb rfl (fun hc0 => ?_) (fun hc0 => ?_)
  · skip
    refine c_seq ?_
    refine c_region ?_
    refine l_move rfl rfl rfl ?_
    refine l_field fo27_2 rfl rfl rfl ?_
    refine l_load_blk hw3 mem2 rfl rfl Try.underlying3 rfl rfl rfl ?_
    refine l_turn (s := 14) (v' := .int .i64 ((exp.toNat : Nat) : Int)) rfl (congrArg (Value.int _) (by omega)) ?_
    refine l_call rfl rfl Try.func47 rfl rfl (.cons rfl (.cons rfl .nil)) (leftR vx lx _ hRx2 (by omega) exp.toNat (by omega) w3 (hw3.io mem0)) ?_
    rintro vy w4 ⟨_, ly, rfl, hRy, hG⟩
    have hw4 := hG _ _ _ _ hw3
    try clear hG hw3
    simp only [List.cons_append, List.nil_append] at hw4
    refine v_lit hw4 rfl rfl Try.underlying46 ti3 rfl (.cons rfl (by first | rfl | assumption) .nil) rfl rfl rfl (fun b3_4 w5 hw5 => ?_)
    try clear hw4
    refine l_assign rfl rfl rfl ?_
    refine l_assign rfl rfl rfl ?_
    refine l_nil ?_
    refine e_then ?_
    refine c_keep [2, 3] (.cons rfl (.cons rfl .nil)) ?_
    refine c_ret ?_
    refine e_then_ret ?_
    refine e_done2 Try.results19 rfl rfl ?_
    refine ⟨_, rfl, ?_⟩
    have hw6 := St.front2 hw5
    try clear hw5
    have hw7 := St.front2 hw6
    try clear hw6
    have hw8 := St.front2 hw7
    try clear hw7
    have hw9 := St.del (.tail (.tail (.tail (.tail .head)))) hw8
    try clear hw8
    have hw10 := St.del (.tail (.tail (.tail .head))) hw9
    try clear hw9
    have hw11 := St.del (.tail (.tail .head)) hw10
    try clear hw10
    exact ⟨_, _, _, [1], rfl, hRy, by rw [show (-exp).toNat = 0 by omega, Int.pow_zero]; exact R16.one1, (hw11.blk_own (by decide)).grows⟩
  · skip
    refine c_skip ?_
    refine e_then ?_
    refine c_keep [1, 4] (.cons rfl (.cons rfl .nil)) ?_
    refine c_seq ?_
    refine c_region ?_
    refine l_move rfl rfl rfl ?_
    refine v_lit hw3 rfl rfl Try.underlying46 ti3 rfl (.cons rfl (by first | rfl | assumption) .nil) rfl rfl rfl (fun b4_1 w12 hw12 => ?_)
    try clear hw3
    refine l_field fo27_2 rfl rfl rfl ?_
    refine l_load_blk hw12 mem3 rfl rfl Try.underlying3 rfl rfl rfl ?_
    refine l_neg rfl rfl rfl (w_i64 (by omega)) ?_
    refine l_turn (s := 21) (v' := .int .i64 (((-exp).toNat : Nat) : Int)) rfl (congrArg (Value.int _) (by omega)) ?_
    refine l_call rfl rfl Try.func47 rfl rfl (.cons rfl (.cons rfl .nil)) (leftR _ [1] 1 R16.one1 (by simp) (-exp).toNat (by omega) w12 (hw12.ibl mem0)) ?_
    rintro vy w13 ⟨_, ly, rfl, hRy, hG⟩
    have hw13 := hG _ _ _ _ hw12
    try clear hG hw12
    simp only [List.cons_append, List.nil_append] at hw13
    refine l_assign rfl rfl rfl ?_
    refine l_assign rfl rfl rfl ?_
    refine l_nil ?_
    refine e_then ?_
    refine c_keep [2, 3] (.cons rfl (.cons rfl .nil)) ?_
    refine c_ret ?_
    refine e_done2 Try.results19 rfl rfl ?_
    refine ⟨_, rfl, ?_⟩
    have hw14 := St.front2 hw13
    try clear hw13
    have hw15 := St.front1 hw14
    try clear hw14
    have hw16 := St.del (.tail (.tail (.tail (.tail .head)))) hw15
    try clear hw15
    have hw17 := St.del (.tail (.tail (.tail .head))) hw16
    try clear hw16
    have hw18 := St.del (.tail (.tail .head)) hw17
    try clear hw17
    exact ⟨_, _, _, _, rfl, by rw [show exp.toNat = 0 by omega, Int.pow_zero, Int.mul_one]; exact hRx2, by rw [Int.one_mul] at hRy; exact hRy, hw18.grows⟩
theorem check10 (k b : Int) (hb : 0 ≤ b ∧ b ≤ 18446744073709551615) (w : World) :
    CallsV P 36 [.int .i64 k, .int .u64 b] w fun r w' => ∃ vx lx vy ly e, r = .tuple #[vx, vy, .int .i64 e] ∧ e = ofE k b ∧ (e = 0 → ∃ d, kd k = some d ∧ b < 2 * d.S ∧ 0 < b % d.S ∧ b % d.S < d.I ∧ R16 lx (fX d (b % d.S)) ∧ R16 ly (fY d (b % d.S))) ∧ Grow w w' [As.ri 3 .i64 vy ly, As.ri 3 .i64 vx lx] := by
  refine enterW Try.func36 rfl Try.ntmps36 rfl ?_
  have hw0 := St.start w
  have hcc := clsF_chk k b hb
  refine c_seq ?_
  refine c_region ?_
  refine l_assign rfl rfl rfl ?_
  refine l_assign rfl rfl rfl ?_
  refine l_assign rfl rfl rfl ?_
  refine l_nil ?_
  refine e_then ?_
  refine c_keep [0, 1] (.cons rfl (.cons rfl .nil)) ?_
  refine c_seq ?_
  refine c_seq ?_
  refine c_region ?_
  refine l_move rfl rfl rfl ?_
  refine l_move rfl rfl rfl ?_
  refine l_callp rfl rfl Try.func62 rfl rfl (.cons rfl (.cons rfl .nil)) (check3 k b hb w) ?_
  refine l_assign rfl rfl rfl ?_
  refine l_nil ?_
  refine e_then ?_
  refine c_keep [0, 1, 7] (.cons rfl (.cons rfl (.cons rfl .nil))) ?_
  refine c_seq ?_
  refine c_region ?_
  refine l_move rfl rfl rfl ?_
  refine l_neq rfl rfl rfl rfl ?_
  refine l_nil ?_
  refine e_then ?_
  refine c_keep [0, 1, 7, 18] (.cons rfl (.cons rfl (.cons rfl (.cons rfl .nil)))) ?_
  first | refine c_cond rfl (fun hc0 => ?_) (fun hc0 => ?_) | refine c_condb rfl (fun hc0 => ?_) (fun hc0 => ?_)
  · skip
    refine c_seq ?_
    refine c_region ?_
    refine l_move rfl rfl rfl ?_
    refine l_assign rfl rfl rfl ?_
    refine l_assign rfl rfl rfl ?_
    refine l_assign rfl rfl rfl ?_
    refine l_nil ?_
    refine e_then ?_
    refine c_keep [4, 5, 6] (.cons rfl (.cons rfl (.cons rfl .nil))) ?_
    refine c_ret ?_
    refine e_then_ret ?_
    refine e_doneN Try.results36 (.tmp rfl (.tmp rfl (.tmp rfl .nil))) rfl ?_
    refine ⟨_, rfl, ?_⟩
    refine ⟨_, [], _, [], _, rfl, by rw [ofE_bad (by omega)]; omega, fun h => absurd h (by omega), ((hw0.nil 3).nil 3).grows⟩
  · skip
    refine c_skip ?_
    refine e_then ?_
    refine c_keep [0, 1] (.cons rfl (.cons rfl .nil)) ?_
    refine c_seq ?_
    refine c_seq ?_
    refine c_region ?_
    refine l_move rfl rfl rfl ?_
    refine l_move rfl rfl rfl ?_
    refine l_call rfl rfl Try.func63 rfl rfl (.cons rfl (.cons rfl .nil)) (class3 k b hb w) ?_
    rintro _ w1 ⟨rfl, hG⟩
    have hw1 := hG _ _ _ _ hw0
    try clear hG hw0
    simp only [List.cons_append, List.nil_append] at hw1
    refine l_move rfl rfl rfl ?_
    refine l_extract rfl rfl rfl rfl ?_
    refine l_extract rfl rfl rfl rfl ?_
    refine l_assign rfl rfl rfl ?_
    refine l_assign rfl rfl rfl ?_
    refine l_nil ?_
    refine e_then ?_
    refine c_keep [0, 1, 8] (.cons rfl (.cons rfl (.cons rfl .nil))) ?_
    refine c_seq ?_
    refine c_region ?_
    refine l_move rfl rfl rfl ?_
    refine l_neq rfl rfl rfl rfl ?_
    refine l_move rfl rfl rfl ?_
    apply l_and 2 [0, 1] rfl rfl (.cons rfl (.cons rfl (.cons rfl .nil))) rfl rfl (fun _ => rfl) rfl rfl rfl
    · intro hg5_3
      refine l_move rfl rfl rfl ?_
      refine l_neq rfl rfl rfl rfl ?_
      refine l_nil ?_
      exact e_stays rfl (.cons rfl (congrArg Value.bool (decide_eq_true hg5_3).symm) (.cons rfl rfl (.cons rfl rfl .nil)))
    refine l_nil ?_
    refine e_then ?_
    refine c_keep [0, 1, 31] (.cons rfl (.cons rfl (.cons rfl .nil))) ?_
    first | refine c_cond rfl (fun hc1 => ?_) (fun hc1 => ?_) | refine c_condb rfl (fun hc1 => ?_) (fun hc1 => ?_)
    · skip
      refine c_seq ?_
      refine c_region ?_
      refine l_assign rfl rfl rfl ?_
      refine l_assign rfl rfl rfl ?_
      refine l_assign rfl rfl rfl ?_
      refine l_nil ?_
      refine e_then ?_
      refine c_keep [4, 5, 6] (.cons rfl (.cons rfl (.cons rfl .nil))) ?_
      refine c_ret ?_
      refine e_then_ret ?_
      refine e_doneN Try.results36 (.tmp rfl (.tmp rfl (.tmp rfl .nil))) rfl ?_
      refine ⟨_, rfl, ?_⟩
      refine ⟨_, [], _, [], _, rfl, (ofE_none (by omega) (by omega)).symm, fun h => absurd h (by omega), ((hw1.nil 3).nil 3).grows⟩
    · skip
      refine c_skip ?_
      refine e_then ?_
      refine c_keep [0, 1] (.cons rfl (.cons rfl .nil)) ?_
      refine c_seq ?_
      refine c_region ?_
      have hc02 : (clsF k b).2 = 0 := by omega
      have hc12 : (clsF k b).1 = 2 ∨ (clsF k b).1 = 3 := by omega
      obtain ⟨d, hk, hlt, hcl⟩ := clsF_ok hb hc02
      have hb2 : 0 ≤ b ∧ b < 2 * d.S := ⟨hb.1, hlt⟩
      have hfin := cls_23 hb.1 (hcl ▸ hc12)
      have hspl := spl_any hk hb2 hfin.2
      have hss := spl_size hfin
      have hsp0 := splM_pos hfin
      refine l_move rfl rfl rfl ?_
      refine l_move rfl rfl rfl ?_
      refine l_call rfl rfl Try.func64 rfl rfl (.cons rfl (.cons rfl .nil)) (split3 k b hb w1) ?_
      rintro _ w2 ⟨rfl, hG⟩
      have hw2 := hG _ _ _ _ hw1
      try clear hG hw1
      simp only [List.cons_append, List.nil_append] at hw2
      rw [hspl]
      refine l_move rfl rfl rfl ?_
      refine l_extract rfl rfl rfl rfl ?_
      refine l_extract rfl rfl rfl rfl ?_
      refine l_alloc hw2 ta27 rfl rfl (fun b7_6 w3 hw3 => ?_)
      try clear hw2
      refine l_store_blks hw3 .head (.zero (.zero (.zero .nil))) rfl tz27 rfl rfl (by first | (simp [Value.oneCell']; done) | (intro u hu; simp only [List.mem_cons, List.not_mem_nil, or_false] at hu; rcases hu with rfl | rfl | rfl <;> first | rfl | assumption)) (fun w4 hw4 => ?_)
      try clear hw3
      refine l_assign rfl rfl rfl ?_
      refine l_nil ?_
      refine e_then ?_
      refine c_keep [10] (.cons rfl .nil) ?_
      refine c_seq ?_
      refine c_region ?_
      refine l_load_agg hw4 mem0 rfl rfl Try.underlying27 rfl tz27 rfl (.take (.take (.take .nil))) ?_
      refine l_call rfl rfl Try.func19 rfl rfl (.cons rfl .nil) (frac10 (decide (d.S ≤ b)) (splM d (b % d.S)) (splE d (b % d.S)) (by omega) (by omega) w4) ?_
      rintro _ w5 ⟨vx, lx, vy, ly, rfl, hRx, hRy, hG⟩
      have hw5 := hG _ _ _ _ hw4
      try clear hG hw4
      simp only [List.cons_append, List.nil_append] at hw5
      refine l_move rfl rfl rfl ?_
      refine l_extract rfl rfl rfl rfl ?_
      refine l_extract rfl rfl rfl rfl ?_
      refine l_assign rfl rfl rfl ?_
      refine l_assign rfl rfl rfl ?_
      refine l_nil ?_
      refine e_then ?_
      refine c_keep [12, 13] (.cons rfl (.cons rfl .nil)) ?_
      refine c_seq ?_
      refine c_region ?_
      refine l_move rfl rfl rfl ?_
      refine l_move rfl rfl rfl ?_
      refine l_assign rfl rfl rfl ?_
      refine l_assign rfl rfl rfl ?_
      refine l_assign rfl rfl rfl ?_
      refine l_nil ?_
      refine e_then ?_
      refine c_keep [4, 5, 6] (.cons rfl (.cons rfl (.cons rfl .nil))) ?_
      refine c_ret ?_
      refine e_doneN Try.results36 (.tmp rfl (.tmp rfl (.tmp rfl .nil))) rfl ?_
      refine ⟨_, rfl, ?_⟩
      have hw6 := St.front1 hw5
      try clear hw5
      have hw7 := St.front1 hw6
      try clear hw6
      have hw8 := St.del (.tail (.tail .head)) hw7
      try clear hw7
      exact ⟨vx, lx, vy, ly, 0, rfl, (ofE_ok hc02 hc12).symm, fun _ => ⟨d, hk, hlt, hfin.1, hfin.2, hRx, hRy⟩, hw8.grows⟩
theorem abs10 (k : Int) (d : Kd) (hk : kd k = some d) (b : Int) (hb : 0 ≤ b) (w : World) :
    CallsV P 38 [.int .i64 k, .int .u64 b] w fun r w' => r = .int .u64 (b % d.S) ∧ w = w' := by
  refine enterW Try.func38 rfl Try.ntmps38 rfl ?_
  have hbd := d.bd
  refine c_seq ?_
  refine c_region ?_
  refine l_assign rfl rfl rfl ?_
  refine l_nil ?_
  refine e_then ?_
  refine c_keep [0, 1] (.cons rfl (.cons rfl .nil)) ?_
  refine c_seq ?_
  refine c_region ?_
  refine l_move rfl rfl rfl ?_
  refine l_callp rfl rfl Try.func21 rfl rfl (.cons rfl (.cons rfl .nil)) (inf3 k d hk true w) ?_
  refine l_move rfl rfl rfl ?_
  refine l_callp rfl rfl Try.func21 rfl rfl (.cons rfl (.cons rfl .nil)) (inf3 k d hk false w) ?_
  refine l_sub rfl rfl rfl rfl (show IntKind.u64.wrap (d.I + d.S - d.I) = d.S by rw [w_u64 (by omega)]; omega) ?_
  refine l_assign rfl rfl rfl ?_
  refine l_nil ?_
  refine e_then ?_
  refine c_keep [1, 5] (.cons rfl (.cons rfl .nil)) ?_
  refine c_seq ?_
  refine c_region ?_
  refine l_move rfl rfl rfl ?_
  refine l_move rfl rfl rfl ?_
  refine l_rem rfl rfl rfl rfl (by omega) (quo_tmod hb) ?_
  refine l_assign rfl rfl rfl ?_
  refine l_nil ?_
  refine e_then ?_
  refine c_keep [4] (.cons rfl .nil) ?_
  refine c_ret ?_
  refine e_done1 Try.results38 rfl ?_
  refine ⟨_, rfl, ?_⟩
  exact ⟨rfl, rfl⟩
theorem reads10 (k : Int) (d : Kd) (hk : kd k = some d) (b m e : Int) (hb : 0 < b ∧ b < d.I) (vm : Value) (lm : List Int) (hRm : R16 lm m) (hm : Ma.blen m ≤ (100 : Nat)) (w : World) (hv : IV w vm (ints .i64 lm)) :
    CallsV P 37 [.int .i64 k, .int .u64 b, vm, .int .i64 e] w fun r w' => r = .bool (decide (e ≤ 400 ∧ -400 ≤ e ∧ rdP d b m e)) ∧ Grow w w' [] := by
  refine enterW Try.func37 rfl Try.ntmps37 rfl ?_
  have hw0 := St.start w
  have hm0 := hRm.nonneg (by omega)
  have hlm := hRm.len hm
  refine c_seq ?_
  refine c_region ?_
  refine l_assign rfl rfl rfl ?_
  refine l_nil ?_
  refine e_then ?_
  refine c_keep [0, 1, 2, 3] (.cons rfl (.cons rfl (.cons rfl (.cons rfl .nil)))) ?_
  refine c_seq ?_
  refine c_seq ?_
  refine c_region ?_
  refine l_move rfl rfl rfl ?_
  refine l_gtr rfl rfl rfl rfl ?_
  refine l_move rfl rfl rfl ?_
  apply l_or 2 [0, 1, 2, 3] rfl rfl (.cons rfl (.cons rfl (.cons rfl (.cons rfl (.cons rfl .nil))))) rfl rfl (fun _ => rfl) rfl rfl rfl
  · intro hg1_3
    refine l_move rfl rfl rfl ?_
    refine l_lss rfl rfl rfl rfl ?_
    refine l_nil ?_
    exact e_stays rfl (.cons rfl (congrArg Value.bool (decide_eq_false hg1_3).symm) (.cons rfl rfl (.cons rfl rfl (.cons rfl rfl (.cons rfl rfl .nil)))))
  refine l_nil ?_
  refine e_then ?_
  refine c_keep [0, 1, 2, 3, 18] (.cons rfl (.cons rfl (.cons rfl (.cons rfl (.cons rfl .nil))))) ?_
  first | refine c_cond rfl (fun hc0 => ?_) (fun hc0 => ?_) | refine c_condb rfl (fun hc0 => ?_) (fun hc0 => ?_)
  · skip
    refine c_seq ?_
    refine c_region ?_
    refine l_assign rfl rfl rfl ?_
    refine l_nil ?_
    refine e_then ?_
    refine c_keep [8] (.cons rfl .nil) ?_
    refine c_ret ?_
    refine e_then_ret ?_
    refine e_done1 Try.results37 rfl ?_
    refine ⟨_, rfl, ?_⟩
    refine ⟨?_, hw0.grows⟩
    rw [decide_eq_false (fun h => by have h1 := h.1; have h2 := h.2.1; omega)]
  · skip
    refine c_skip ?_
    refine e_then ?_
    refine c_keep [0, 1, 2, 3] (.cons rfl (.cons rfl (.cons rfl (.cons rfl .nil)))) ?_
    refine c_seq ?_
    refine c_region ?_
    refine v_lit hw0 rfl rfl Try.underlying46 ti3 rfl (.cons rfl (by first | rfl | assumption) .nil) rfl rfl rfl (fun b3_0 w1 hw1 => ?_)
    try clear hw0
    refine l_assign rfl rfl rfl ?_
    refine l_nil ?_
    refine e_then ?_
    refine c_keep [0, 1, 2, 3, 9] (.cons rfl (.cons rfl (.cons rfl (.cons rfl (.cons rfl .nil))))) ?_
    refine c_seq ?_
    refine c_seq ?_
    refine c_region ?_
    refine l_move rfl rfl rfl ?_
    refine l_geq rfl rfl rfl rfl ?_
    refine l_nil ?_
    refine e_then ?_
    refine c_keep [0, 1, 2, 3, 9, 21] (.cons rfl (.cons rfl (.cons rfl (.cons rfl (.cons rfl (.cons rfl .nil)))))) ?_
    first | refine c_cond rfl (fun hc1 => ?_) (fun hc1 => ?_) | refine c_condb rfl (fun hc1 => ?_) (fun hc1 => ?_)
    · skip
      refine c_region ?_
      refine l_move rfl rfl rfl ?_
      refine l_move rfl rfl rfl ?_
      refine l_call rfl rfl Try.func25 rfl rfl (.cons rfl .nil) (tenR e (by omega) w1) ?_
      rintro vt w2 ⟨_, lt, rfl, hRt, hG⟩
      have hw2 := hG _ _ _ _ hw1
      try clear hG hw1
      simp only [List.cons_append, List.nil_append] at hw2
      have hb10 := blen_10 e.toNat
      have hlt := hRt.len hb10
      refine l_call rfl rfl Try.func24 rfl rfl (.cons rfl (.cons rfl .nil)) (prodR _ _ lm lt _ _ hRm hRt (by omega) (by omega) w2 (hw2.iarg hv) (hw2.io mem0)) ?_
      rintro vp w3 ⟨_, lp, rfl, hRp, hG⟩
      have hw3 := hG _ _ _ _ hw2
      try clear hG hw2
      simp only [List.cons_append, List.nil_append] at hw3
      have hmp := blen_mul hm0 (Int.le_of_lt (p10 e.toNat)) hm hb10
      have hlp := hRp.len hmp
      have hp0 := hRp.nonneg (by omega)
      refine l_assign rfl rfl rfl ?_
      refine l_nil ?_
      refine e_then ?_
      refine c_keep [0, 1, 2, 9] (.cons rfl (.cons rfl (.cons rfl (.cons rfl .nil)))) ?_
      refine c_seq ?_
      refine c_region ?_
      refine l_move rfl rfl rfl ?_
      refine l_move rfl rfl rfl ?_
      refine l_move rfl rfl rfl ?_
      refine l_call rfl rfl Try.func65 rfl rfl (.cons rfl (.cons rfl (.cons rfl .nil))) (near3 k d hk vp _ lp [1] (m * 10 ^ e.toNat) (1) hRp R16.one1 (by omega) (by simp) (by omega) (by omega) w3 (hw3.io mem0) (hw3.ibl mem2)) ?_
      rintro _ w4 ⟨tt, rfl, hR, hG⟩
      have hw4 := hG _ _ _ _ hw3
      try clear hG hw3
      simp only [List.cons_append, List.nil_append] at hw4
      refine l_move rfl rfl rfl ?_
      refine l_extract rfl rfl rfl rfl ?_
      refine l_extract rfl rfl rfl rfl ?_
      refine l_extract rfl rfl rfl rfl ?_
      refine l_assign rfl rfl rfl ?_
      refine l_assign rfl rfl rfl ?_
      refine l_assign rfl rfl rfl ?_
      refine l_nil ?_
      refine e_then ?_
      refine c_keep [1, 10, 11] (.cons rfl (.cons rfl (.cons rfl .nil))) ?_
      refine c_seq ?_
      refine c_region ?_
      refine l_move rfl rfl rfl ?_
      refine l_move rfl rfl rfl ?_
      apply l_and 3 [] rfl rfl (.cons rfl .nil) rfl rfl (fun _ => rfl) rfl rfl rfl
      · intro hg8_2
        refine l_move rfl rfl rfl ?_
        refine l_move rfl rfl rfl ?_
        refine l_eql rfl rfl rfl rfl ?_
        refine l_nil ?_
        exact e_stays rfl (.cons rfl (congrArg Value.bool (decide_eq_true hg8_2).symm) .nil)
      refine l_assign rfl rfl rfl ?_
      refine l_nil ?_
      refine e_then ?_
      refine c_keep [8] (.cons rfl .nil) ?_
      refine c_ret ?_
      refine e_done1 Try.results37 rfl ?_
      refine ⟨_, rfl, ?_⟩
      have hw5 := St.del (.tail (.tail .head)) hw4
      try clear hw4
      have hw6 := St.del (.tail .head) hw5
      try clear hw5
      have hw7 := St.del .head hw6
      try clear hw6
      have hiff := rdP_iff (m := m) (e := e) hb (t := tt) (by unfold rdT; rw [show (-e).toNat = 0 by omega, Int.pow_zero]; exact hR)
      refine ⟨congrArg Value.bool (decide_eq_decide.2 ?_), hw7.grows⟩
      rw [hiff]
      exact ⟨fun h => ⟨by omega, by omega, h⟩, fun h => h.2.2⟩
    · skip
      refine c_region ?_
      refine l_move rfl rfl rfl ?_
      refine l_neg rfl rfl rfl (w_i64 (by omega)) ?_
      refine l_call rfl rfl Try.func25 rfl rfl (.cons rfl .nil) (tenR (0 - e) (by omega) w1) ?_
      rintro vt w8 ⟨_, lt, rfl, hRt, hG⟩
      have hw8 := hG _ _ _ _ hw1
      try clear hG hw1
      simp only [List.cons_append, List.nil_append] at hw8
      have hb10 := blen_10 (0 - e).toNat
      have hlt := hRt.len hb10
      have hp10 := p10 (0 - e).toNat
      refine l_assign rfl rfl rfl ?_
      refine l_nil ?_
      refine e_then ?_
      refine c_keep [0, 1, 2, 9] (.cons rfl (.cons rfl (.cons rfl (.cons rfl .nil)))) ?_
      refine c_seq ?_
      refine c_region ?_
      refine l_move rfl rfl rfl ?_
      refine l_move rfl rfl rfl ?_
      refine l_move rfl rfl rfl ?_
      refine l_call rfl rfl Try.func65 rfl rfl (.cons rfl (.cons rfl (.cons rfl .nil))) (near3 k d hk vm vt lm lt (m) (10 ^ (0 - e).toNat) hRm hRt (by omega) (by omega) (by omega) (by omega) w8 (hw8.iarg hv) (hw8.io mem0)) ?_
      rintro _ w9 ⟨tt, rfl, hR, hG⟩
      have hw9 := hG _ _ _ _ hw8
      try clear hG hw8
      simp only [List.cons_append, List.nil_append] at hw9
      refine l_move rfl rfl rfl ?_
      refine l_extract rfl rfl rfl rfl ?_
      refine l_extract rfl rfl rfl rfl ?_
      refine l_extract rfl rfl rfl rfl ?_
      refine l_assign rfl rfl rfl ?_
      refine l_assign rfl rfl rfl ?_
      refine l_assign rfl rfl rfl ?_
      refine l_nil ?_
      refine e_then ?_
      refine c_keep [1, 10, 11] (.cons rfl (.cons rfl (.cons rfl .nil))) ?_
      refine c_seq ?_
      refine c_region ?_
      refine l_move rfl rfl rfl ?_
      refine l_move rfl rfl rfl ?_
      apply l_and 3 [] rfl rfl (.cons rfl .nil) rfl rfl (fun _ => rfl) rfl rfl rfl
      · intro hg8_2
        refine l_move rfl rfl rfl ?_
        refine l_move rfl rfl rfl ?_
        refine l_eql rfl rfl rfl rfl ?_
        refine l_nil ?_
        exact e_stays rfl (.cons rfl (congrArg Value.bool (decide_eq_true hg8_2).symm) .nil)
      refine l_assign rfl rfl rfl ?_
      refine l_nil ?_
      refine e_then ?_
      refine c_keep [8] (.cons rfl .nil) ?_
      refine c_ret ?_
      refine e_done1 Try.results37 rfl ?_
      refine ⟨_, rfl, ?_⟩
      have hw10 := St.del (.tail .head) hw9
      try clear hw9
      have hw11 := St.del .head hw10
      try clear hw10
      have hiff := rdP_iff (m := m) (e := e) hb (t := tt) (by unfold rdT; rw [show e.toNat = 0 by omega, Int.pow_zero, Int.mul_one, show -e = 0 - e by omega]; exact hR)
      refine ⟨congrArg Value.bool (decide_eq_decide.2 ?_), hw11.grows⟩
      rw [hiff]
      exact ⟨fun h => ⟨by omega, by omega, h⟩, fun h => h.2.2⟩

/-- a fraction times powers of ten: where its first digit stands -/
theorem cmpI_ge0 {a b : Int} : 0 ≤ cmpI a b ↔ b ≤ a := by unfold cmpI; (repeat' split) <;> omega
theorem top_step {x y t : Int} (hy : 0 < y) (ht : TopR x y t) (k : Nat) : (y * 10 ^ k * 10 ≤ x ↔ (k : Int) + 1 ≤ t) := by
  have e1 : fD y ((k : Int) + 1) = y * 10 ^ k * 10 := by unfold fD; rw [show ((k : Int) + 1).toNat = k + 1 from by omega, Int.pow_succ, Int.mul_assoc]
  have e2 : fN x ((k : Int) + 1) = x := by unfold fN; rw [show (-((k : Int) + 1)).toNat = 0 from by omega, Int.pow_zero, Int.mul_one]
  rw [← e1]
  constructor
  · intro h; exact ht.ge hy (by rw [e2]; exact h)
  · intro h; have := ht.le hy h; rw [e2] at this; exact this
theorem top_down {x y t : Int} (hy : 0 < y) (ht : TopR x y t) (k j : Nat) (hkj : k = 0 ∨ j = 0) : (x * 10 ^ j < y * 10 ^ k ↔ t < (k : Int) - j) := by
  have e1 : fD y ((k : Int) - j) = y * 10 ^ k := by unfold fD; rw [show ((k : Int) - j).toNat = k from by omega]
  have e2 : fN x ((k : Int) - j) = x * 10 ^ j := by unfold fN; rw [show (-((k : Int) - j)).toNat = j from by omega]
  rw [← e1, ← e2]
  constructor
  · intro h
    rcases Int.lt_or_le t ((k : Int) - j) with h1 | h1
    · exact h1
    · have := ht.le hy h1; omega
  · intro h
    rcases Int.lt_or_le (fN x ((k : Int) - j)) (fD y ((k : Int) - j)) with h1 | h1
    · exact h1
    · have := ht.ge hy h1; omega

theorem top10 (vx vy : Value) (lx ly : List Int) (x y : Int) (hRx : R16 lx x) (hRy : R16 ly y) (hbx : Ma.blen x ≤ (1100 : Nat)) (hby : Ma.blen y ≤ (1100 : Nat)) (hy0 : 0 < y) (t : Int) (ht : TopR x y t) (hl : -400 ≤ t ∧ t ≤ 400) (w : World) (hvx : IV w vx (ints .i64 lx)) (hvy : IV w vy (ints .i64 ly)) :
    CallsV P 39 [vx, vy] w fun r w' => r = .int .i64 t ∧ Grow w w' [] := by
  refine enterW Try.func39 rfl Try.ntmps39 rfl ?_
  have hw0 := St.start w
  have hx0 := hRx.nonneg (by omega)
  have hlx := hRx.len hbx
  have hly := hRy.len hby
  refine c_seq ?_
  refine c_region ?_
  refine l_assign rfl rfl rfl ?_
  refine l_nil ?_
  refine e_then ?_
  refine c_keep [0, 1] (.cons rfl (.cons rfl .nil)) ?_
  refine c_seq ?_
  refine c_region ?_
  refine l_assign rfl rfl rfl ?_
  refine l_nil ?_
  refine e_then ?_
  refine c_seq ?_
  refine c_block ?_
  refine c_loopk (ι := Nat × Value × List Int × Value × List Int) (fun (z0 : Nat × Value × List Int × Value × List Int) => match z0 with | ⟨k, vz, lz, u, lu⟩ => (t - k).toNat) (fun (z0 : Nat × Value × List Int × Value × List Int) (w' : World) => match z0 with | ⟨k, vz, lz, u, lu⟩ => St w w.heap.size None' ([As.ri 3 .i64 u lu]) w' ∧ ((k : Int) ≤ t ∨ k = 0) ∧ R16 lz (y * 10 ^ k) ∧ ((u = vz ∧ lu = lz) ∨ IV w vz (ints .i64 lz))) (fun (z0 : Nat × Value × List Int × Value × List Int) => match z0 with | ⟨k, vz, lz, u, lu⟩ => [(1, vz), (5, .int .i64 (k : Int))]) [0] (0, vy, ly, .slice none 0 0, []) ?_ (.cons rfl .nil) ?_ ?_
  · exact ⟨hw0.nil 3, .inr rfl, by rw [Int.pow_zero, Int.mul_one]; exact hRy, .inr hvy⟩
  · exact (.cons rfl (by first | rfl | (refine congrArg (Value.int _) ?_; omega)) (.cons rfl (by first | rfl | (refine congrArg (Value.int _) ?_; omega)) .nil))
  rintro ⟨k, vz, lz, u, lu⟩ w1 ⟨hw1, hk, hRz, hor⟩
  show RunC P _ _ _ (_ :: _) _
  have hbz := blen_mul (Int.le_of_lt hy0) (Int.le_of_lt (p10 k)) hby (blen_10 k)
  have hlz := hRz.len (k := 2800) (by omega)
  have hbz : Ma.blen (y * 10 ^ k) ≤ (2801 : Nat) := by omega
  refine c_seq ?_
  refine c_seq ?_
  refine c_region ?_
  refine l_move rfl rfl rfl ?_
  refine l_move rfl rfl rfl ?_
  refine v_lit hw1 rfl rfl Try.underlying46 ti3 rfl (.cons rfl (by first | rfl | assumption) .nil) rfl rfl rfl (fun b2_2 w2 hw2 => ?_)
  try clear hw1
  refine l_call rfl rfl Try.func24 rfl rfl (.cons rfl (.cons rfl .nil)) (prodR vz _ lz [10] _ 10 hRz R16.ten (by omega) (by simp) w2 (ivor hor (hw2.io mem1) hw2.iarg) (hw2.ibl mem0)) ?_
  rintro vp w3 ⟨_, lp, rfl, hRp, hG⟩
  have hw3 := hG _ _ _ _ hw2
  try clear hG hw2
  simp only [List.cons_append, List.nil_append] at hw3
  have hpb := blen_mul (hRz.nonneg (by omega)) (show (0 : Int) ≤ 10 by omega) hbz (show Ma.blen 10 ≤ (4 : Nat) by decide)
  have hlp := hRp.len hpb
  refine l_call rfl rfl Try.func26 rfl rfl (.cons rfl (.cons rfl .nil)) (cmpR _ _ _ _ _ _ hRx hRp (by omega) (by omega) w3 (hw3.iarg hvx) (hw3.io mem0)) ?_
  rintro _ w4 ⟨rfl, hG⟩
  have hw4 := hG _ _ _ _ hw3
  try clear hG hw3
  simp only [List.cons_append, List.nil_append] at hw4
  refine l_geq rfl rfl rfl rfl ?_
  refine l_nil ?_
  refine e_then ?_
  refine c_keep [0, 1, 5, 11] (.cons rfl (.cons rfl (.cons rfl (.cons rfl .nil)))) ?_
  first | refine c_cond rfl (fun hc0 => ?_) (fun hc0 => ?_) | refine c_condb rfl (fun hc0 => ?_) (fun hc0 => ?_)
  · skip
    have hst := (top_step hy0 ht k).1 (cmpI_ge0.1 hc0)
    refine c_skip ?_
    refine e_then ?_
    refine c_keep [0, 1, 5] (.cons rfl (.cons rfl (.cons rfl .nil))) ?_
    refine c_block ?_
    refine c_seq ?_
    refine c_region ?_
    refine l_move rfl rfl rfl ?_
    refine v_lit hw4 rfl rfl Try.underlying46 ti3 rfl (.cons rfl (by first | rfl | assumption) .nil) rfl rfl rfl (fun b3_1 w5 hw5 => ?_)
    try clear hw4
    refine l_call rfl rfl Try.func24 rfl rfl (.cons rfl (.cons rfl .nil)) (prodR vz _ lz [10] _ 10 hRz R16.ten (by omega) (by simp) w5 (ivor hor (hw5.io mem3) hw5.iarg) (hw5.ibl mem0)) ?_
    rintro vp w6 ⟨_, lp, rfl, hRp, hG⟩
    have hw6 := hG _ _ _ _ hw5
    try clear hG hw5
    simp only [List.cons_append, List.nil_append] at hw6
    have hpb := blen_mul (hRz.nonneg (by omega)) (show (0 : Int) ≤ 10 by omega) hbz (show Ma.blen 10 ≤ (4 : Nat) by decide)
    have hlp := hRp.len hpb
    refine l_assign rfl rfl rfl ?_
    refine l_nil ?_
    refine e_then ?_
    refine c_keep [0, 1, 5] (.cons rfl (.cons rfl (.cons rfl .nil))) ?_
    refine c_region ?_
    refine l_move rfl rfl rfl ?_
    refine l_add rfl rfl rfl rfl (w_i64 (by omega)) ?_
    refine l_assign rfl rfl rfl ?_
    refine l_nil ?_
    refine e_blk ?_
    have hw7 := St.del (.tail (.tail (.tail (.tail .head)))) hw6
    try clear hw6
    have hw8 := St.del (.tail (.tail (.tail .head))) hw7
    try clear hw7
    have hw9 := St.del (.tail (.tail .head)) hw8
    try clear hw8
    have hw10 := St.del (.tail .head) hw9
    try clear hw9
    refine e_againk (i := (k, vz, lz, u, lu)) (k + 1, vp, lp, vp, lp) ?_ ?_ (.cons rfl .nil) ?_
    · first | omega | (simp; omega)
    · exact ⟨hw10, .inl (by omega), by rw [Int.pow_succ, ← Int.mul_assoc]; exact hRp, .inl ⟨rfl, rfl⟩⟩
    · exact (.cons rfl (by first | rfl | (refine congrArg (Value.int _) ?_; omega)) (.cons rfl (by first | rfl | (refine congrArg (Value.int _) ?_; omega)) .nil))
  · skip
    have hst : ¬ (k : Int) + 1 ≤ t := fun h => hc0 (cmpI_ge0.2 ((top_step hy0 ht k).2 h))
    refine c_exit ?_
    refine e_then_exit ?_
    refine e_then_exit ?_
    refine e_blk_exit ?_
    refine e_then ?_
    refine c_keep [0, 1, 5] (.cons rfl (.cons rfl (.cons rfl .nil))) ?_
    refine c_seq ?_
    refine c_block ?_
    refine c_loopk (ι := Nat × Value × List Int × Value × List Int) (fun (z0 : Nat × Value × List Int × Value × List Int) => match z0 with | ⟨j, vq, lq, u2, lu2⟩ => ((k : Int) - j - t).toNat) (fun (z0 : Nat × Value × List Int × Value × List Int) (w' : World) => match z0 with | ⟨j, vq, lq, u2, lu2⟩ => St w w.heap.size None' ([As.ri 3 .i64 u2 lu2, As.ri 3 .i64 u lu]) w' ∧ (k = 0 ∨ j = 0) ∧ (j : Int) ≤ 400 ∧ t ≤ (k : Int) - j ∧ R16 lq (x * 10 ^ j) ∧ ((u2 = vq ∧ lu2 = lq) ∨ IV w vq (ints .i64 lq))) (fun (z0 : Nat × Value × List Int × Value × List Int) => match z0 with | ⟨j, vq, lq, u2, lu2⟩ => [(0, vq), (5, .int .i64 ((k : Int) - j))]) [1] (0, vx, lx, .slice none 0 0, []) ?_ (.cons rfl .nil) ?_ ?_
    · have hd1 := St.del .head hw4
      have hd2 := St.del .head hd1
      exact ⟨hd2.nil 3, .inr rfl, by omega, by omega, by rw [Int.pow_zero, Int.mul_one]; exact hRx, .inr hvx⟩
    · exact (.cons rfl (by first | rfl | (refine congrArg (Value.int _) ?_; omega)) (.cons rfl (by first | rfl | (refine congrArg (Value.int _) ?_; omega)) .nil))
    rintro ⟨j, vq, lq, u2, lu2⟩ w11 ⟨hw11, hkj, hj4, htj, hRq, hoq⟩
    show RunC P _ _ _ (_ :: _) _
    have hbq := blen_mul hx0 (Int.le_of_lt (p10 j)) hbx (blen_10 j)
    have hlq := hRq.len (k := 2801) (by omega)
    refine c_seq ?_
    refine c_seq ?_
    refine c_region ?_
    refine l_move rfl rfl rfl ?_
    refine l_move rfl rfl rfl ?_
    refine l_call rfl rfl Try.func26 rfl rfl (.cons rfl (.cons rfl .nil)) (cmpR _ _ _ _ _ _ hRq hRz (by omega) (by omega) w11 (ivor hoq (hw11.io mem0) hw11.iarg) (ivor hor (hw11.io mem1) hw11.iarg)) ?_
    rintro _ w12 ⟨rfl, hG⟩
    have hw12 := hG _ _ _ _ hw11
    try clear hG hw11
    simp only [List.cons_append, List.nil_append] at hw12
    refine l_lss rfl rfl rfl rfl ?_
    refine l_nil ?_
    refine e_then ?_
    refine c_keep [0, 1, 5, 20] (.cons rfl (.cons rfl (.cons rfl (.cons rfl .nil)))) ?_
    first | refine c_cond rfl (fun hc1 => ?_) (fun hc1 => ?_) | refine c_condb rfl (fun hc1 => ?_) (fun hc1 => ?_)
    · skip
      have hst2 := (top_down hy0 ht k j hkj).1 (cmpI_lt0.1 hc1)
      refine c_skip ?_
      refine e_then ?_
      refine c_keep [0, 1, 5] (.cons rfl (.cons rfl (.cons rfl .nil))) ?_
      refine c_block ?_
      refine c_seq ?_
      refine c_region ?_
      refine l_move rfl rfl rfl ?_
      refine v_lit hw12 rfl rfl Try.underlying46 ti3 rfl (.cons rfl (by first | rfl | assumption) .nil) rfl rfl rfl (fun b6_1 w13 hw13 => ?_)
      try clear hw12
      refine l_call rfl rfl Try.func24 rfl rfl (.cons rfl (.cons rfl .nil)) (prodR vq _ lq [10] _ 10 hRq R16.ten (by omega) (by simp) w13 (ivor hoq (hw13.io mem1) hw13.iarg) (hw13.ibl mem0)) ?_
      rintro vp w14 ⟨_, lp, rfl, hRp, hG⟩
      have hw14 := hG _ _ _ _ hw13
      try clear hG hw13
      simp only [List.cons_append, List.nil_append] at hw14
      refine l_assign rfl rfl rfl ?_
      refine l_nil ?_
      refine e_then ?_
      refine c_keep [0, 1, 5] (.cons rfl (.cons rfl (.cons rfl .nil))) ?_
      refine c_region ?_
      refine l_move rfl rfl rfl ?_
      refine l_sub rfl rfl rfl rfl (w_i64 (by omega)) ?_
      refine l_assign rfl rfl rfl ?_
      refine l_nil ?_
      refine e_blk ?_
      have hw15 := St.del (.tail (.tail .head)) hw14
      try clear hw14
      have hw16 := St.del (.tail .head) hw15
      try clear hw15
      refine e_againk (i := (j, vq, lq, u2, lu2)) (j + 1, vp, lp, vp, lp) ?_ ?_ (.cons rfl .nil) ?_
      · first | omega | (simp; omega)
      · exact ⟨hw16, by omega, by omega, by omega, by rw [Int.pow_succ, ← Int.mul_assoc]; exact hRp, .inl ⟨rfl, rfl⟩⟩
      · exact (.cons rfl (by first | rfl | (refine congrArg (Value.int _) ?_; omega)) (.cons rfl (by first | rfl | (refine congrArg (Value.int _) ?_; omega)) .nil))
    · skip
      have hst2 : ¬ t < (k : Int) - j := fun h => hc1 (cmpI_lt0.2 ((top_down hy0 ht k j hkj).2 h))
      refine c_exit ?_
      refine e_then_exit ?_
      refine e_then_exit ?_
      refine e_blk_exit ?_
      refine e_then ?_
      refine c_keep [5] (.cons rfl .nil) ?_
      refine c_seq ?_
      refine c_region ?_
      refine l_move rfl rfl rfl ?_
      refine l_assign rfl rfl rfl ?_
      refine l_nil ?_
      refine e_then ?_
      refine c_keep [4] (.cons rfl .nil) ?_
      refine c_ret ?_
      refine e_done1 Try.results39 rfl ?_
      refine ⟨_, rfl, ?_⟩
      have hw17 := St.del (.tail .head) hw12
      try clear hw12
      have hw18 := St.del .head hw17
      try clear hw17
      refine ⟨?_, hw18.grows⟩
      rw [show (k : Int) - j = t by omega]

theorem limb16 {l : List Int} {n : Int} (h : R16 l n) : l.getD 0 0 % 2 = n % 2 := by
  rw [← h.val]
  cases l with
  | nil => rfl
  | cons x l =>
    show x % 2 = (x + 65536 * Ma.vb 65536 l) % 2
    omega
theorem odd16 {l : List Int} {n : Int} (h : R16 l n) : (0 < l.length ∧ l.getD 0 0 % 2 = 1) ↔ n % 2 = 1 := by
  rw [limb16 h]
  refine ⟨fun h => h.2, fun h1 => ⟨?_, h1⟩⟩
  cases l with
  | nil =>
    have := h.val
    simp [Ma.vb] at this
    omega
  | cons x l => simp
/-- how many digits -/
def dl (m : Int) : Nat := (dt0 m.toNat).length
theorem dl_zero : dl 0 = 0 := by unfold dl; rw [show (0 : Int).toNat = 0 from rfl, dt0_zero]; rfl
theorem dl_pos {m : Int} (h : 0 < m) : dl m = dl (m / 10) + 1 := by unfold dl; rw [dt0_pos h, List.length_append]; rfl
theorem dl_le : ∀ {n : Nat} {m : Int}, 0 ≤ m → m < 10 ^ n → dl m ≤ n
  | 0, m, h0, h => by
    rw [show m = 0 by simp at h; omega, dl_zero]
    exact Nat.le_refl _
  | n + 1, m, h0, h => by
    rcases Int.lt_or_eq_of_le h0 with h1 | h1
    · rw [dl_pos h1]
      rw [Int.pow_succ] at h
      have := dl_le (n := n) (m := m / 10) (by omega) (by omega)
      omega
    · rw [← h1, dl_zero]
      omega
theorem dl_dtx {m : Int} (h : 0 < m) : (dtx m).length = dl m := by unfold dtx dl; rw [if_neg (by omega)]

theorem Reads10 (k b : Int) (hb : 0 ≤ b ∧ b ≤ 18446744073709551615) (man e : Int) (hm : 0 ≤ man ∧ man ≤ 18446744073709551615) (he : -9223372036854775808 ≤ e ∧ e ≤ 9223372036854775807) (w : World) :
    CallsV P 14 [.int .i64 k, .int .u64 b, .int .u64 man, .int .i64 e] w fun r w' => r = .tuple #[.bool (rdsF k b man e).1, .int .i64 (rdsF k b man e).2] ∧ Grow w w' [] := by
  refine enterW Try.func14 rfl Try.ntmps14 rfl ?_
  have hw0 := St.start w
  refine c_seq ?_
  refine c_region ?_
  refine l_assign rfl rfl rfl ?_
  refine l_assign rfl rfl rfl ?_
  refine l_nil ?_
  refine e_then ?_
  refine c_keep [0, 1, 2, 3] (.cons rfl (.cons rfl (.cons rfl (.cons rfl .nil)))) ?_
  refine c_seq ?_
  refine c_region ?_
  refine l_move rfl rfl rfl ?_
  refine l_move rfl rfl rfl ?_
  refine l_call rfl rfl Try.func36 rfl rfl (.cons rfl (.cons rfl .nil)) (check10 k b hb w) ?_
  rintro _ w1 ⟨vx, lx, vy, ly, er, rfl, her, hok, hG⟩
  have hw1 := hG _ _ _ _ hw0
  try clear hG hw0
  simp only [List.cons_append, List.nil_append] at hw1
  refine l_move rfl rfl rfl ?_
  refine l_extract rfl rfl rfl rfl ?_
  refine l_extract rfl rfl rfl rfl ?_
  refine l_extract rfl rfl rfl rfl ?_
  refine l_assign rfl rfl rfl ?_
  refine l_assign rfl rfl rfl ?_
  refine l_assign rfl rfl rfl ?_
  refine l_nil ?_
  refine e_then ?_
  refine c_keep [0, 1, 2, 3, 12] (.cons rfl (.cons rfl (.cons rfl (.cons rfl (.cons rfl .nil))))) ?_
  refine c_seq ?_
  refine c_seq ?_
  refine c_region ?_
  refine l_move rfl rfl rfl ?_
  refine l_neq rfl rfl rfl rfl ?_
  refine l_nil ?_
  refine e_then ?_
  refine c_keep [0, 1, 2, 3, 12, 21] (.cons rfl (.cons rfl (.cons rfl (.cons rfl (.cons rfl (.cons rfl .nil)))))) ?_
  first | refine c_cond rfl (fun hc0 => ?_) (fun hc0 => ?_) | refine c_condb rfl (fun hc0 => ?_) (fun hc0 => ?_)
  · skip
    refine c_seq ?_
    refine c_region ?_
    refine l_move rfl rfl rfl ?_
    refine l_assign rfl rfl rfl ?_
    refine l_assign rfl rfl rfl ?_
    refine l_nil ?_
    refine e_then ?_
    refine c_keep [8, 9] (.cons rfl (.cons rfl .nil)) ?_
    refine c_ret ?_
    refine e_then_ret ?_
    refine e_done2 Try.results14 rfl rfl ?_
    refine ⟨_, rfl, ?_⟩
    have hw2 := St.del (.tail .head) hw1
    try clear hw1
    have hw3 := St.del .head hw2
    try clear hw2
    refine ⟨?_, hw3.grows⟩
    rw [rdsF_bad (by omega), ← her]
    all_goals rfl
  · skip
    have her0 : er = 0 := by omega
    obtain ⟨d, hk, hlt, hlo, hhi, _, _⟩ := hok her0
    refine c_skip ?_
    refine e_then ?_
    refine c_keep [0, 1, 2, 3] (.cons rfl (.cons rfl (.cons rfl (.cons rfl .nil)))) ?_
    refine c_seq ?_
    refine c_region ?_
    refine l_move rfl rfl rfl ?_
    refine l_move rfl rfl rfl ?_
    refine l_move rfl rfl rfl ?_
    refine l_callp rfl rfl Try.func38 rfl rfl (.cons rfl (.cons rfl .nil)) (abs10 k d hk b hb.1 w1) ?_
    refine l_move rfl rfl rfl ?_
    refine v_lit hw1 rfl rfl Try.underlying66 ti22 rfl (.cons rfl (by first | rfl | assumption) .nil) rfl rfl rfl (fun b4_5 w4 hw4 => ?_)
    try clear hw1
    refine l_call rfl rfl Try.func23 rfl rfl (.cons rfl .nil) (numR _ [man] (U.one hm) (by simp) w4 (hw4.ibl mem0)) ?_
    rintro vm w5 ⟨_, lm, rfl, hRm, hG⟩
    have hw5 := hG _ _ _ _ hw4
    try clear hG hw4
    simp only [List.cons_append, List.nil_append] at hw5
    have hRm2 : R16 lm (man) := by have := hRm; rw [show Ma.vb 18446744073709551616 [man] = man from nv_one _] at this; exact this
    refine l_move rfl rfl rfl ?_
    refine l_call rfl rfl Try.func37 rfl rfl (.cons rfl (.cons rfl (.cons rfl (.cons rfl .nil)))) (reads10 k d hk (b % d.S) man e ⟨hlo, hhi⟩ vm lm hRm2 (by have := (Ma.blen_le_iff (n := man) (by omega) 64).2 (by omega); omega) w5 (hw5.io mem0)) ?_
    rintro _ w6 ⟨rfl, hG⟩
    have hw6 := hG _ _ _ _ hw5
    try clear hG hw5
    simp only [List.cons_append, List.nil_append] at hw6
    refine l_assign rfl rfl rfl ?_
    refine l_assign rfl rfl rfl ?_
    refine l_nil ?_
    refine e_then ?_
    refine c_keep [8, 9] (.cons rfl (.cons rfl .nil)) ?_
    refine c_ret ?_
    refine e_done2 Try.results14 rfl rfl ?_
    refine ⟨_, rfl, ?_⟩
    have hw7 := St.del (.tail (.tail (.tail .head))) hw6
    try clear hw6
    have hw8 := St.del (.tail (.tail .head)) hw7
    try clear hw7
    have hw9 := St.del (.tail .head) hw8
    try clear hw8
    have hw10 := St.del .head hw9
    try clear hw9
    refine ⟨?_, hw10.grows⟩
    rw [rdsF_ok (by omega) hk]
    refine congrArg (fun z => Value.tuple #[.bool z, .int .i64 0]) (decide_eq_decide.2 ?_)
    exact (rdQ_iff ⟨hlo, hhi⟩ hm).symm
theorem shorter10 (m0 e0 : Int) (hm : 0 < m0 ∧ m0 ≤ 1000000000000000000) (he : -1000 ≤ e0 ∧ e0 ≤ 1000) (w : World) :
    CallsV P 42 [.int .u64 m0, .int .i64 e0] w fun r w' => (∃ m e, r = .tuple #[.int .u64 m, .int .i64 e, .int .i64 0] ∧ StripR m0 e0 m e) ∧ w = w' := by
  refine enterW Try.func42 rfl Try.ntmps42 rfl ?_
  refine c_seq ?_
  refine c_region ?_
  refine l_assign rfl rfl rfl ?_
  refine l_assign rfl rfl rfl ?_
  refine l_assign rfl rfl rfl ?_
  refine l_nil ?_
  refine e_then ?_
  refine c_keep [0, 1] (.cons rfl (.cons rfl .nil)) ?_
  refine c_seq ?_
  refine c_block ?_
  refine c_loopk (ι := Nat × Int) (fun (z0 : Nat × Int) => match z0 with | ⟨j, m⟩ => m.toNat) (fun (z0 : Nat × Int) (w' : World) => match z0 with | ⟨j, m⟩ => w = w' ∧ m0 = m * 10 ^ j ∧ 0 < m ∧ m ≤ 1000000000000000000) (fun (z0 : Nat × Int) => match z0 with | ⟨j, m⟩ => [(0, .int .u64 m), (1, .int .i64 (e0 + j))]) [] (0, m0) ?_ .nil ?_ ?_
  · exact ⟨rfl, by simp, by omega, by omega⟩
  · exact (.cons rfl (by first | rfl | (refine congrArg (Value.int _) ?_; omega)) (.cons rfl (by first | rfl | (refine congrArg (Value.int _) ?_; omega)) .nil))
  rintro ⟨j, m⟩ _ ⟨rfl, hm0, hmp, hm1⟩
  show RunC P _ _ _ (_ :: _) _
  have hj := pow10_le (j := j) hmp (by omega)
  refine c_seq ?_
  refine c_seq ?_
  refine c_region ?_
  refine l_move rfl rfl rfl ?_
  refine l_rem rfl rfl rfl rfl (by omega) (r_pos (by omega)) ?_
  refine l_eql rfl rfl rfl rfl ?_
  refine l_nil ?_
  refine e_then ?_
  refine c_keep [0, 1, 9] (.cons rfl (.cons rfl (.cons rfl .nil))) ?_
  first | refine c_cond rfl (fun hc0 => ?_) (fun hc0 => ?_) | refine c_condb rfl (fun hc0 => ?_) (fun hc0 => ?_)
  · skip
    refine c_skip ?_
    refine e_then ?_
    refine c_keep [0, 1] (.cons rfl (.cons rfl .nil)) ?_
    refine c_block ?_
    refine c_seq ?_
    refine c_region ?_
    refine l_move rfl rfl rfl ?_
    refine l_quo rfl rfl rfl rfl (by omega) (q_u64 (by omega)) ?_
    refine l_assign rfl rfl rfl ?_
    refine l_nil ?_
    refine e_then ?_
    refine c_keep [0, 1] (.cons rfl (.cons rfl .nil)) ?_
    refine c_region ?_
    refine l_move rfl rfl rfl ?_
    refine l_add rfl rfl rfl rfl (w_i64 (by omega)) ?_
    refine l_assign rfl rfl rfl ?_
    refine l_nil ?_
    refine e_blk ?_
    refine e_againk (i := (j, m)) (j + 1, m / 10) ?_ ?_ .nil ?_
    · first | omega | (simp; omega)
    · exact ⟨rfl, pow10_next hm0 (by omega), by omega, by omega⟩
    · exact (.cons rfl (by first | rfl | (refine congrArg (Value.int _) ?_; omega)) (.cons rfl (by first | rfl | (refine congrArg (Value.int _) ?_; omega)) .nil))
  · skip
    refine c_exit ?_
    refine e_then_exit ?_
    refine e_then_exit ?_
    refine e_blk_exit ?_
    refine e_then ?_
    refine c_keep [0, 1] (.cons rfl (.cons rfl .nil)) ?_
    refine c_seq ?_
    refine c_region ?_
    refine l_move rfl rfl rfl ?_
    refine l_move rfl rfl rfl ?_
    refine l_assign rfl rfl rfl ?_
    refine l_assign rfl rfl rfl ?_
    refine l_assign rfl rfl rfl ?_
    refine l_nil ?_
    refine e_then ?_
    refine c_keep [4, 5, 6] (.cons rfl (.cons rfl (.cons rfl .nil))) ?_
    refine c_ret ?_
    refine e_doneN Try.results42 (.tmp rfl (.tmp rfl (.tmp rfl .nil))) rfl ?_
    refine ⟨_, rfl, ?_⟩
    exact ⟨⟨_, _, rfl, StripR.go hm0 (by omega)⟩, rfl⟩
theorem Digits10 (k b : Int) (hb : 0 ≤ b ∧ b ≤ 18446744073709551615) (w : World) :
    CallsV P 15 [.int .i64 k, .int .u64 b] w fun r w' => ∃ m e er, r = .tuple #[.int .u64 m, .int .i64 e, .int .i64 er] ∧ DigE k b m e er ∧ Grow w w' [] := by
  refine enterW Try.func15 rfl Try.ntmps15 rfl ?_
  have hw0 := St.start w
  refine c_seq ?_
  refine c_region ?_
  refine l_assign rfl rfl rfl ?_
  refine l_assign rfl rfl rfl ?_
  refine l_assign rfl rfl rfl ?_
  refine l_nil ?_
  refine e_then ?_
  refine c_keep [0, 1] (.cons rfl (.cons rfl .nil)) ?_
  refine c_seq ?_
  refine c_region ?_
  refine l_move rfl rfl rfl ?_
  refine l_move rfl rfl rfl ?_
  refine l_call rfl rfl Try.func36 rfl rfl (.cons rfl (.cons rfl .nil)) (check10 k b hb w) ?_
  rintro _ w1 ⟨vx, lx, vy, ly, er, rfl, her, hok, hG⟩
  have hw1 := hG _ _ _ _ hw0
  try clear hG hw0
  simp only [List.cons_append, List.nil_append] at hw1
  refine l_move rfl rfl rfl ?_
  refine l_extract rfl rfl rfl rfl ?_
  refine l_extract rfl rfl rfl rfl ?_
  refine l_extract rfl rfl rfl rfl ?_
  refine l_assign rfl rfl rfl ?_
  refine l_assign rfl rfl rfl ?_
  refine l_assign rfl rfl rfl ?_
  refine l_nil ?_
  refine e_then ?_
  refine c_keep [0, 1, 7, 8, 9] (.cons rfl (.cons rfl (.cons rfl (.cons rfl (.cons rfl .nil))))) ?_
  refine c_seq ?_
  refine c_seq ?_
  refine c_region ?_
  refine l_move rfl rfl rfl ?_
  refine l_neq rfl rfl rfl rfl ?_
  refine l_nil ?_
  refine e_then ?_
  refine c_keep [0, 1, 7, 8, 9, 32] (.cons rfl (.cons rfl (.cons rfl (.cons rfl (.cons rfl (.cons rfl .nil)))))) ?_
  first | refine c_cond rfl (fun hc0 => ?_) (fun hc0 => ?_) | refine c_condb rfl (fun hc0 => ?_) (fun hc0 => ?_)
  · skip
    refine c_seq ?_
    refine c_region ?_
    refine l_move rfl rfl rfl ?_
    refine l_assign rfl rfl rfl ?_
    refine l_assign rfl rfl rfl ?_
    refine l_assign rfl rfl rfl ?_
    refine l_nil ?_
    refine e_then ?_
    refine c_keep [4, 5, 6] (.cons rfl (.cons rfl (.cons rfl .nil))) ?_
    refine c_ret ?_
    refine e_then_ret ?_
    refine e_doneN Try.results15 (.tmp rfl (.tmp rfl (.tmp rfl .nil))) rfl ?_
    refine ⟨_, rfl, ?_⟩
    have hw2 := St.del (.tail .head) hw1
    try clear hw1
    have hw3 := St.del .head hw2
    try clear hw2
    exact ⟨_, _, _, rfl, ⟨her, fun _ => ⟨rfl, rfl⟩, fun h => absurd h (by omega)⟩, hw3.grows⟩
  · skip
    have her0 : er = 0 := by omega
    obtain ⟨d, hk, hltS, hlo, hhi, hRx, hRy⟩ := hok her0
    have hfl := flt_of ⟨hlo, hhi⟩
    have hfx := hfl.bx
    have hfy := hfl.by'
    obtain ⟨t, ht, het, hlo4, hhi3, _⟩ := flt_top hfl
    have hlx := hRx.len hfx
    have hly := hRy.len hfy
    refine c_skip ?_
    refine e_then ?_
    refine c_keep [0, 1, 7, 8] (.cons rfl (.cons rfl (.cons rfl (.cons rfl .nil)))) ?_
    refine c_seq ?_
    refine c_region ?_
    refine l_move rfl rfl rfl ?_
    refine l_move rfl rfl rfl ?_
    refine l_callp rfl rfl Try.func38 rfl rfl (.cons rfl (.cons rfl .nil)) (abs10 k d hk b hb.1 w1) ?_
    refine l_assign rfl rfl rfl ?_
    refine l_nil ?_
    refine e_then ?_
    refine c_keep [0, 7, 8, 10] (.cons rfl (.cons rfl (.cons rfl (.cons rfl .nil)))) ?_
    refine c_seq ?_
    refine c_region ?_
    refine l_move rfl rfl rfl ?_
    refine l_move rfl rfl rfl ?_
    refine l_call rfl rfl Try.func39 rfl rfl (.cons rfl (.cons rfl .nil)) (top10 vx vy lx ly _ _ hRx hRy (by omega) (by omega) hfl.hy t ht (by omega) w1 (hw1.io mem1) (hw1.io mem0)) ?_
    rintro _ w4 ⟨rfl, hG⟩
    have hw4 := hG _ _ _ _ hw1
    try clear hG hw1
    simp only [List.cons_append, List.nil_append] at hw4
    refine l_assign rfl rfl rfl ?_
    refine l_nil ?_
    refine e_then ?_
    refine c_keep [0, 7, 8, 10, 11] (.cons rfl (.cons rfl (.cons rfl (.cons rfl (.cons rfl .nil))))) ?_
    refine c_seq ?_
    refine c_seq ?_
    refine c_region ?_
    refine l_assign rfl rfl rfl ?_
    refine l_nil ?_
    refine e_then ?_
    refine c_block ?_
    refine c_loopk (ι := Int) (fun (n : Int) => (20 - n).toNat) (fun (n : Int) (w' : World) => St w w.heap.size None' ([As.ri 3 .i64 vy ly, As.ri 3 .i64 vx lx]) w' ∧ 1 ≤ n ∧ n ≤ 18 ∧ (∀ g, t - n + 1 < g → g ≤ t → ¬ hit d (b % d.S) (fX d (b % d.S)) (fY d (b % d.S)) g)) (fun (n : Int) => [(12, .int .i64 n)]) [0, 7, 8, 10, 11] (1) ?_ (.cons rfl (.cons rfl (.cons rfl (.cons rfl (.cons rfl .nil))))) ?_ ?_
    · exact ⟨hw4, by omega, by omega, fun g h1 h2 => by omega⟩
    · exact (.cons rfl (by first | rfl | (refine congrArg (Value.int _) ?_; omega)) .nil)
    rintro n w5 ⟨hw5, hn1, hn2, hno⟩
    show RunC P _ _ _ (_ :: _) _
    refine c_seq ?_
    refine c_seq ?_
    refine c_region ?_
    refine l_move rfl rfl rfl ?_
    refine l_lss rfl rfl rfl rfl ?_
    refine l_nil ?_
    refine e_then ?_
    refine c_keep [0, 7, 8, 10, 11, 12, 41] (.cons rfl (.cons rfl (.cons rfl (.cons rfl (.cons rfl (.cons rfl (.cons rfl .nil))))))) ?_
    first | refine c_cond rfl (fun hc1 => ?_) (fun hc1 => ?_) | refine c_condb rfl (fun hc1 => ?_) (fun hc1 => ?_)
    · skip
      refine c_skip ?_
      refine e_then ?_
      refine c_keep [0, 7, 8, 10, 11, 12] (.cons rfl (.cons rfl (.cons rfl (.cons rfl (.cons rfl (.cons rfl .nil)))))) ?_
      refine c_seq ?_
      refine c_block ?_
      refine c_seq ?_
      refine c_region ?_
      refine l_move rfl rfl rfl ?_
      refine l_move rfl rfl rfl ?_
      refine l_sub rfl rfl rfl rfl (w_i64 (by omega)) ?_
      refine l_add rfl rfl rfl rfl (w_i64 (by omega)) ?_
      obtain ⟨e, hee⟩ : ∃ e, e = t - n + 1 := ⟨_, rfl⟩
      refine l_turn (s := 47) (v' := .int .i64 e) rfl (congrArg (Value.int _) hee.symm) ?_
      have hq := fQ_bd (Int.le_of_lt hfl.hx) hfl.hy ht 18 (e := e) (by omega)
      rw [show (10 : Int) ^ 18 = 1000000000000000000 by decide] at hq
      refine l_assign rfl rfl rfl ?_
      refine l_nil ?_
      refine e_then ?_
      refine c_keep [0, 7, 8, 10, 11, 12, 13] (.cons rfl (.cons rfl (.cons rfl (.cons rfl (.cons rfl (.cons rfl (.cons rfl .nil))))))) ?_
      refine c_seq ?_
      refine c_region ?_
      refine l_move rfl rfl rfl ?_
      refine l_move rfl rfl rfl ?_
      refine l_assign rfl rfl rfl ?_
      refine l_assign rfl rfl rfl ?_
      refine l_nil ?_
      refine e_then ?_
      refine c_keep [0, 7, 8, 10, 11, 12, 13, 14, 15] (.cons rfl (.cons rfl (.cons rfl (.cons rfl (.cons rfl (.cons rfl (.cons rfl (.cons rfl (.cons rfl .nil))))))))) ?_
      refine c_seq ?_
      refine c_seq ?_
      refine c_region ?_
      refine l_move rfl rfl rfl ?_
      refine l_geq rfl rfl rfl rfl ?_
      refine l_nil ?_
      refine e_then ?_
      refine c_keep [0, 7, 8, 10, 11, 12, 13, 14, 15, 51] (.cons rfl (.cons rfl (.cons rfl (.cons rfl (.cons rfl (.cons rfl (.cons rfl (.cons rfl (.cons rfl (.cons rfl .nil)))))))))) ?_
      first | refine c_cond rfl (fun hc2 => ?_) (fun hc2 => ?_) | refine c_condb rfl (fun hc2 => ?_) (fun hc2 => ?_)
      · skip
        refine c_region ?_
        refine l_move rfl rfl rfl ?_
        refine l_move rfl rfl rfl ?_
        refine l_call rfl rfl Try.func25 rfl rfl (.cons rfl .nil) (tenR e (by omega) w5) ?_
        rintro vt w6 ⟨_, lt, rfl, hRt, hG⟩
        have hw6 := hG _ _ _ _ hw5
        try clear hG hw5
        simp only [List.cons_append, List.nil_append] at hw6
        have hb10 := blen_10 e.toNat
        have hllt := hRt.len hb10
        refine l_call rfl rfl Try.func24 rfl rfl (.cons rfl (.cons rfl .nil)) (prodR vy vt ly lt _ _ hRy hRt (by omega) (by omega) w6 (hw6.io mem1) (hw6.io mem0)) ?_
        rintro vp w7 ⟨_, lp, rfl, hRp, hG⟩
        have hw7 := hG _ _ _ _ hw6
        try clear hG hw6
        simp only [List.cons_append, List.nil_append] at hw7
        have hRn : R16 lx (fN (fX d (b % d.S)) e) := by unfold fN; rw [show (-e).toNat = 0 by omega, Int.pow_zero, Int.mul_one]; exact hRx
        have hRd : R16 lp (fD (fY d (b % d.S)) e) := hRp
        have hNb := fN_blen (Int.le_of_lt hfl.hx) (e := e) (by omega) (by omega)
        have hDb := fD_blen hfl.hy (e := e) (by omega) (by omega)
        have hlnn := hRn.len hNb
        have hldd := hRd.len hDb
        have hDp := fD_pos hfl.hy e
        
        refine l_assign rfl rfl rfl ?_
        refine l_nil ?_
        refine e_then ?_
        refine c_keep [0, 7, 8, 10, 11, 12, 13, 14, 15] (.cons rfl (.cons rfl (.cons rfl (.cons rfl (.cons rfl (.cons rfl (.cons rfl (.cons rfl (.cons rfl .nil))))))))) ?_
        refine c_seq ?_
        refine c_region ?_
        refine l_move rfl rfl rfl ?_
        refine l_move rfl rfl rfl ?_
        refine l_call rfl rfl Try.func40 rfl rfl (.cons rfl (.cons rfl .nil)) (overR vx vp lx lp _ _ hRn hRd (by omega) (by omega) hDp w7 (hw7.io mem3) (hw7.io mem0)) ?_
        rintro _ w8 ⟨vq, vr, lq, lr, rfl, hRq, hRr, hG⟩
        have hw8 := hG _ _ _ _ hw7
        try clear hG hw7
        simp only [List.cons_append, List.nil_append] at hw8
        have hRq : R16 lq (fQ (fX d (b % d.S)) (fY d (b % d.S)) e) := hRq
        have hr0 := Int.emod_nonneg (fN (fX d (b % d.S)) e) (show fD (fY d (b % d.S)) e ≠ 0 by omega)
        have hr1 := Int.emod_lt_of_pos (fN (fX d (b % d.S)) e) hDp
        have hblr := Ma.blen_mono hr0 (Int.le_of_lt hr1)
        have hllr := hRr.len (k := 2881) (by omega)
        have hqb : Ma.blen (fQ (fX d (b % d.S)) (fY d (b % d.S)) e) ≤ (100 : Nat) := (Ma.blen_le_iff (n := fQ (fX d (b % d.S)) (fY d (b % d.S)) e) (by omega) 100).2 (by omega)
        have hub : Ma.blen (fQ (fX d (b % d.S)) (fY d (b % d.S)) e + 1) ≤ (100 : Nat) := (Ma.blen_le_iff (n := fQ (fX d (b % d.S)) (fY d (b % d.S)) e + 1) (by omega) 100).2 (by omega)
        have hllq := hRq.len hqb
        refine l_move rfl rfl rfl ?_
        refine l_extract rfl rfl rfl rfl ?_
        refine l_extract rfl rfl rfl rfl ?_
        refine l_assign rfl rfl rfl ?_
        refine l_assign rfl rfl rfl ?_
        refine l_nil ?_
        refine e_then ?_
        refine c_keep [0, 7, 8, 10, 11, 12, 13, 15, 16, 17] (.cons rfl (.cons rfl (.cons rfl (.cons rfl (.cons rfl (.cons rfl (.cons rfl (.cons rfl (.cons rfl (.cons rfl .nil)))))))))) ?_
        refine c_seq ?_
        refine c_region ?_
        refine l_move rfl rfl rfl ?_
        refine v_lit hw8 rfl rfl Try.underlying46 ti3 rfl (.cons rfl (by first | rfl | assumption) .nil) rfl rfl rfl (fun b15_1 w9 hw9 => ?_)
        try clear hw8
        refine l_call rfl rfl Try.func41 rfl rfl (.cons rfl (.cons rfl .nil)) (sumR vq _ lq [1] _ 1 hRq R16.one1 (by omega) (by simp) w9 (hw9.io mem1) (hw9.ibl mem0)) ?_
        rintro vup w10 ⟨_, lup, rfl, hRu, hG⟩
        have hw10 := hG _ _ _ _ hw9
        try clear hG hw9
        simp only [List.cons_append, List.nil_append] at hw10
        have hllu := hRu.len hub
        refine l_assign rfl rfl rfl ?_
        refine l_nil ?_
        refine e_then ?_
        refine c_keep [0, 7, 8, 10, 11, 12, 13, 15, 16, 17, 18] (.cons rfl (.cons rfl (.cons rfl (.cons rfl (.cons rfl (.cons rfl (.cons rfl (.cons rfl (.cons rfl (.cons rfl (.cons rfl .nil))))))))))) ?_
        refine c_seq ?_
        refine c_region ?_
        refine l_move rfl rfl rfl ?_
        refine l_move rfl rfl rfl ?_
        refine l_move rfl rfl rfl ?_
        refine l_move rfl rfl rfl ?_
        refine l_call rfl rfl Try.func37 rfl rfl (.cons rfl (.cons rfl (.cons rfl (.cons rfl .nil)))) (reads10 k d hk (b % d.S) (fQ (fX d (b % d.S)) (fY d (b % d.S)) e) e ⟨hlo, hhi⟩ vq lq hRq hqb w10 (hw10.io mem2)) ?_
        rintro _ w11 ⟨rfl, hG⟩
        have hw11 := hG _ _ _ _ hw10
        try clear hG hw10
        simp only [List.cons_append, List.nil_append] at hw11
        refine l_move rfl rfl rfl ?_
        refine l_move rfl rfl rfl ?_
        refine l_move rfl rfl rfl ?_
        refine l_move rfl rfl rfl ?_
        refine l_call rfl rfl Try.func37 rfl rfl (.cons rfl (.cons rfl (.cons rfl (.cons rfl .nil)))) (reads10 k d hk (b % d.S) (fQ (fX d (b % d.S)) (fY d (b % d.S)) e + 1) e ⟨hlo, hhi⟩ vup lup hRu hub w11 (hw11.io mem0)) ?_
        rintro _ w12 ⟨rfl, hG⟩
        have hw12 := hG _ _ _ _ hw11
        try clear hG hw11
        simp only [List.cons_append, List.nil_append] at hw12
        refine l_turn (s := 74) (v' := .bool (decide (rdQ d (b % d.S) (fQ (fX d (b % d.S)) (fY d (b % d.S)) e) e))) rfl (congrArg Value.bool (decide_eq_decide.2 (rdQ_iff ⟨hlo, hhi⟩ (by omega)).symm)) ?_
        refine l_assign rfl rfl rfl ?_
        refine l_turn (s := 79) (v' := .bool (decide (rdQ d (b % d.S) (fQ (fX d (b % d.S)) (fY d (b % d.S)) e + 1) e))) rfl (congrArg Value.bool (decide_eq_decide.2 (rdQ_iff ⟨hlo, hhi⟩ (by omega)).symm)) ?_
        refine l_assign rfl rfl rfl ?_
        refine l_nil ?_
        refine e_then ?_
        refine c_keep [0, 7, 8, 10, 11, 12, 13, 15, 16, 17, 18, 19, 20] (.cons rfl (.cons rfl (.cons rfl (.cons rfl (.cons rfl (.cons rfl (.cons rfl (.cons rfl (.cons rfl (.cons rfl (.cons rfl (.cons rfl (.cons rfl .nil))))))))))))) ?_
        refine c_seq ?_
        refine c_seq ?_
        refine c_region ?_
        refine l_move rfl rfl rfl ?_
        first | refine l_notd rfl rfl rfl ?_ | refine l_not rfl rfl rfl ?_
        refine l_turn (s := 81) (v' := .bool (decide (¬ rdQ d (b % d.S) (fQ (fX d (b % d.S)) (fY d (b % d.S)) e) e))) rfl (by rw [decide_not]) ?_
        refine l_move rfl rfl rfl ?_
        apply l_and 2 [0, 7, 8, 10, 11, 12, 13, 15, 16, 17, 18, 19, 20] rfl rfl (.cons rfl (.cons rfl (.cons rfl (.cons rfl (.cons rfl (.cons rfl (.cons rfl (.cons rfl (.cons rfl (.cons rfl (.cons rfl (.cons rfl (.cons rfl (.cons rfl .nil)))))))))))))) rfl rfl (fun _ => rfl) rfl rfl rfl
        · intro hg17_3
          refine l_move rfl rfl rfl ?_
          first | refine l_notd rfl rfl rfl ?_ | refine l_not rfl rfl rfl ?_
          refine l_nil ?_
          exact e_stays rfl (.cons rfl (congrArg Value.bool (decide_eq_true hg17_3).symm) (.cons rfl rfl (.cons rfl rfl (.cons rfl rfl (.cons rfl rfl (.cons rfl rfl (.cons rfl rfl (.cons rfl rfl (.cons rfl rfl (.cons rfl rfl (.cons rfl rfl (.cons rfl rfl (.cons rfl rfl (.cons rfl rfl .nil))))))))))))))
          all_goals infer_instance
        refine l_nil ?_
        refine e_then ?_
        refine c_keep [0, 7, 8, 10, 11, 12, 13, 15, 16, 17, 18, 19, 20, 85] (.cons rfl (.cons rfl (.cons rfl (.cons rfl (.cons rfl (.cons rfl (.cons rfl (.cons rfl (.cons rfl (.cons rfl (.cons rfl (.cons rfl (.cons rfl (.cons rfl .nil)))))))))))))) ?_
        first | refine c_cond rfl (fun hc3 => ?_) (fun hc3 => ?_) | refine c_condb rfl (fun hc3 => ?_) (fun hc3 => ?_)
        · skip
          refine c_exit ?_
          refine e_then_exit ?_
          refine e_blk_exit ?_
          refine e_then ?_
          refine c_keep [0, 7, 8, 10, 11, 12] (.cons rfl (.cons rfl (.cons rfl (.cons rfl (.cons rfl (.cons rfl .nil)))))) ?_
          refine c_region ?_
          refine l_move rfl rfl rfl ?_
          refine l_add rfl rfl rfl rfl (w_i64 (by omega)) ?_
          refine l_assign rfl rfl rfl ?_
          refine l_nil ?_
          have hmiss : ¬ hit d (b % d.S) (fX d (b % d.S)) (fY d (b % d.S)) e := fun h => h.elim hc3.1 hc3.2
          obtain ⟨hf3, hno2⟩ := no_next ⟨hlo, hhi⟩ hfl ht (by omega) (by omega) (fun g h1 h2 => hno g (by omega) h2) hmiss
          have hw13 := St.del (.tail (.tail (.tail (.tail (.tail .head))))) hw12
          try clear hw12
          have hw14 := St.del (.tail (.tail (.tail (.tail .head)))) hw13
          try clear hw13
          have hw15 := St.del (.tail (.tail (.tail .head))) hw14
          try clear hw14
          have hw16 := St.del (.tail (.tail .head)) hw15
          try clear hw15
          have hw17 := St.del (.tail .head) hw16
          try clear hw16
          have hw18 := St.del .head hw17
          try clear hw17
          refine e_againk (i := (n)) (n + 1) ?_ ?_ (.cons rfl (.cons rfl (.cons rfl (.cons rfl (.cons rfl .nil))))) ?_
          · first | omega | (simp; omega)
          · exact ⟨hw18, by omega, by omega, fun g h1 h2 => hno2 g (by omega) h2⟩
          · exact (.cons rfl (by first | rfl | (refine congrArg (Value.int _) ?_; omega)) .nil)
        · skip
          refine c_skip ?_
          refine e_then ?_
          refine c_keep [13, 15, 16, 17, 18, 19, 20] (.cons rfl (.cons rfl (.cons rfl (.cons rfl (.cons rfl (.cons rfl (.cons rfl .nil))))))) ?_
          refine c_seq ?_
          refine c_region ?_
          have hhit : hit d (b % d.S) (fX d (b % d.S)) (fY d (b % d.S)) e := Classical.byContradiction fun h => by first | exact hc3 ⟨fun a => h (.inl a), fun b => h (.inr b)⟩ | exact hc5 ⟨fun a => h (.inl a), fun b => h (.inr b)⟩
          have hpp := pick_pos (Int.le_of_lt hfl.hx) hfl.hy ht hhit
          have hpb := pick_le (d := d) (b := b % d.S) hq.2
          refine l_move rfl rfl rfl ?_
          refine l_move rfl rfl rfl ?_
          refine l_call rfl rfl Try.func41 rfl rfl (.cons rfl (.cons rfl .nil)) (sumR vr vr lr lr _ _ hRr hRr (by omega) (by omega) w12 (hw12.io mem3) (hw12.io mem3)) ?_
          rintro vs w19 ⟨_, ls, rfl, hRs, hG⟩
          have hw19 := hG _ _ _ _ hw12
          try clear hG hw12
          simp only [List.cons_append, List.nil_append] at hw19
          have hbls := blen_mul (x := fN (fX d (b % d.S)) e % fD (fY d (b % d.S)) e) (y := 2) hr0 (by omega) (m := 2881) (n := 2) (by omega) (by decide)
          have hRs2 : R16 ls (fN (fX d (b % d.S)) e % fD (fY d (b % d.S)) e * 2) := by rw [show fN (fX d (b % d.S)) e % fD (fY d (b % d.S)) e * 2 = fN (fX d (b % d.S)) e % fD (fY d (b % d.S)) e + fN (fX d (b % d.S)) e % fD (fY d (b % d.S)) e from by omega]; exact hRs
          have hlls := hRs2.len hbls
          refine l_move rfl rfl rfl ?_
          refine l_call rfl rfl Try.func26 rfl rfl (.cons rfl (.cons rfl .nil)) (cmpR _ _ _ _ _ _ hRs hRd (by omega) (by omega) w19 (hw19.io mem0) (hw19.io mem5)) ?_
          rintro _ w20 ⟨rfl, hG⟩
          have hw20 := hG _ _ _ _ hw19
          try clear hG hw19
          simp only [List.cons_append, List.nil_append] at hw20
          refine l_turn (s := 90) (v' := .int .i64 (hfS (fX d (b % d.S)) (fY d (b % d.S)) e)) rfl (congrArg (Value.int .i64) (by unfold hfS; rw [Int.two_mul])) ?_
          refine l_assign rfl rfl rfl ?_
          refine l_nil ?_
          refine e_then ?_
          refine c_keep [13, 16, 18, 19, 20, 21] (.cons rfl (.cons rfl (.cons rfl (.cons rfl (.cons rfl (.cons rfl .nil)))))) ?_
          refine c_seq ?_
          refine c_region ?_
          have hDq : Rg 0 65535 lq := hRq.d
          refine l_move rfl rfl rfl ?_
          refine v_leni rfl rfl Try.underlying46 rfl (by first | exact hw20.io mem0 | exact hw20.io mem1 | exact hw20.ibl mem2 | exact hw20.io mem3 | exact hw20.io mem4 | exact hw20.io mem5 | exact hw20.io mem6 | exact hw20.io mem7 | exact hw20.io mem8 | assumption) ?_
          refine l_gtr rfl rfl rfl rfl ?_
          refine l_move rfl rfl rfl ?_
          apply l_and (q := lq.getD 0 0 % 2 = 1) 5 [13, 16, 18, 19, 20, 21] rfl rfl (.cons rfl (.cons rfl (.cons rfl (.cons rfl (.cons rfl (.cons rfl (.cons rfl .nil))))))) rfl rfl (fun _ => rfl) rfl rfl rfl
          · intro hg19_4
            refine l_move rfl rfl rfl ?_
            refine v_getr (j := 0) rfl rfl rfl rfl Try.underlying46 tz3 Try.underlying3 rfl rfl (by first | exact hw20.io mem0 | exact hw20.io mem1 | exact hw20.ibl mem2 | exact hw20.io mem3 | exact hw20.io mem4 | exact hw20.io mem5 | exact hw20.io mem6 | exact hw20.io mem7 | exact hw20.io mem8 | assumption) (by assumption) rfl (by omega) (by first | omega | (simp; done) | (simp; omega)) (fun hb19_5 => ?_)
            refine l_rem rfl rfl rfl rfl (by omega) (r_pos (by omega)) ?_
            refine l_eql rfl rfl rfl rfl ?_
            refine l_nil ?_
            exact e_stays rfl (.cons rfl (congrArg Value.bool (decide_eq_true hg19_4).symm) (.cons rfl rfl (.cons rfl rfl (.cons rfl rfl (.cons rfl rfl (.cons rfl rfl (.cons rfl rfl .nil)))))))
            all_goals infer_instance
          refine l_turn (s := 100) (v' := .bool (decide (fQ (fX d (b % d.S)) (fY d (b % d.S)) e % 2 = 1))) rfl (congrArg Value.bool (decide_eq_decide.2 (by have := odd16 hRq; omega))) ?_
          refine l_assign rfl rfl rfl ?_
          refine l_nil ?_
          refine e_then ?_
          refine c_keep [13, 16, 18, 19, 20, 21, 22] (.cons rfl (.cons rfl (.cons rfl (.cons rfl (.cons rfl (.cons rfl (.cons rfl .nil))))))) ?_
          refine c_seq ?_
          refine c_region ?_
          refine l_move rfl rfl rfl ?_
          refine l_assign rfl rfl rfl ?_
          refine l_nil ?_
          refine e_then ?_
          refine c_keep [13, 18, 19, 20, 21, 22, 23] (.cons rfl (.cons rfl (.cons rfl (.cons rfl (.cons rfl (.cons rfl (.cons rfl .nil))))))) ?_
          refine c_seq ?_
          refine c_seq ?_
          refine c_region ?_
          refine l_move rfl rfl rfl ?_
          first | refine l_notd rfl rfl rfl ?_ | refine l_not rfl rfl rfl ?_
          refine l_turn (s := 103) (v' := .bool (decide (¬ rdQ d (b % d.S) (fQ (fX d (b % d.S)) (fY d (b % d.S)) e) e))) rfl (by rw [decide_not]) ?_
          refine l_move rfl rfl rfl ?_
          apply l_or (q := rdQ d (b % d.S) (fQ (fX d (b % d.S)) (fY d (b % d.S)) e + 1) e ∧ (0 < hfS (fX d (b % d.S)) (fY d (b % d.S)) e ∨ (hfS (fX d (b % d.S)) (fY d (b % d.S)) e = 0 ∧ fQ (fX d (b % d.S)) (fY d (b % d.S)) e % 2 = 1))) 12 [13, 18, 23] rfl rfl (.cons rfl (.cons rfl (.cons rfl (.cons rfl .nil)))) rfl rfl (fun _ => rfl) rfl rfl rfl
          · intro hg21_3
            refine l_move rfl rfl rfl ?_
            refine l_move rfl rfl rfl ?_
            apply l_and (q := 0 < hfS (fX d (b % d.S)) (fY d (b % d.S)) e ∨ (hfS (fX d (b % d.S)) (fY d (b % d.S)) e = 0 ∧ fQ (fX d (b % d.S)) (fY d (b % d.S)) e % 2 = 1)) 9 [13, 18, 23, 104] rfl rfl (.cons rfl (.cons rfl (.cons rfl (.cons rfl (.cons rfl .nil))))) rfl rfl (fun _ => rfl) rfl rfl rfl
            · intro hg21_5
              refine l_move rfl rfl rfl ?_
              refine l_gtr rfl rfl rfl rfl ?_
              refine l_move rfl rfl rfl ?_
              apply l_or (q := hfS (fX d (b % d.S)) (fY d (b % d.S)) e = 0 ∧ fQ (fX d (b % d.S)) (fY d (b % d.S)) e % 2 = 1) 5 [13, 18, 23, 104, 106] rfl rfl (.cons rfl (.cons rfl (.cons rfl (.cons rfl (.cons rfl (.cons rfl .nil)))))) rfl rfl (fun _ => rfl) rfl rfl rfl
              · intro hg21_8
                refine l_move rfl rfl rfl ?_
                refine l_eql rfl rfl rfl rfl ?_
                refine l_move rfl rfl rfl ?_
                apply l_and (q := fQ (fX d (b % d.S)) (fY d (b % d.S)) e % 2 = 1) 1 [13, 18, 23, 104, 106, 109] rfl rfl (.cons rfl (.cons rfl (.cons rfl (.cons rfl (.cons rfl (.cons rfl (.cons rfl .nil))))))) rfl rfl (fun _ => rfl) rfl rfl rfl
                · intro hg21_11
                  refine l_move rfl rfl rfl ?_
                  refine l_nil ?_
                  exact e_stays rfl (.cons rfl (congrArg Value.bool (decide_eq_true hg21_11).symm) (.cons rfl rfl (.cons rfl rfl (.cons rfl rfl (.cons rfl rfl (.cons rfl rfl (.cons rfl rfl .nil)))))))
                  all_goals infer_instance
                refine l_nil ?_
                exact e_stays rfl (.cons rfl (congrArg Value.bool (decide_eq_false hg21_8).symm) (.cons rfl rfl (.cons rfl rfl (.cons rfl rfl (.cons rfl rfl (.cons rfl rfl .nil))))))
                all_goals infer_instance
              refine l_nil ?_
              exact e_stays rfl (.cons rfl (congrArg Value.bool (decide_eq_true hg21_5).symm) (.cons rfl rfl (.cons rfl rfl (.cons rfl rfl (.cons rfl rfl .nil)))))
              all_goals infer_instance
            refine l_nil ?_
            exact e_stays rfl (.cons rfl (congrArg Value.bool (decide_eq_false hg21_3).symm) (.cons rfl rfl (.cons rfl rfl (.cons rfl rfl .nil))))
            all_goals infer_instance
          refine l_nil ?_
          refine e_then ?_
          refine c_keep [13, 18, 23, 117] (.cons rfl (.cons rfl (.cons rfl (.cons rfl .nil)))) ?_
          first | refine c_cond rfl (fun hc4 => ?_) (fun hc4 => ?_) | refine c_condb rfl (fun hc4 => ?_) (fun hc4 => ?_)
          · skip
            have hpk : pickM d (b % d.S) (fX d (b % d.S)) (fY d (b % d.S)) e = fQ (fX d (b % d.S)) (fY d (b % d.S)) e + 1 := if_pos (c := upp d (b % d.S) (fX d (b % d.S)) (fY d (b % d.S)) e) hc4
            refine c_region ?_
            refine l_move rfl rfl rfl ?_
            refine l_assign rfl rfl rfl ?_
            refine l_nil ?_
            refine e_then ?_
            refine c_keep [13, 23] (.cons rfl (.cons rfl .nil)) ?_
            refine c_seq ?_
            refine c_region ?_
            refine l_move rfl rfl rfl ?_
            refine l_call rfl rfl Try.func43 rfl rfl (.cons rfl .nil) (wordsR vup lup _ hRu (by omega) w20 (hw20.io mem1)) ?_
            rintro vw w21 ⟨_, lw, rfl, hcw, hG⟩
            have hw21 := hG _ _ _ _ hw20
            try clear hG hw20
            simp only [List.cons_append, List.nil_append] at hw21
            have hlw : lw.length ≤ 3 := by first | (have := cn_lenb hcw hub; omega) | (have := cn_lenb hcw hqb; omega)
            have hw22 := St.del (.tail .head) hw21
            try clear hw21
            have hw23 := St.del (.tail .head) hw22
            try clear hw22
            have hw24 := St.del (.tail .head) hw23
            try clear hw23
            have hw25 := St.del (.tail .head) hw24
            try clear hw24
            have hw26 := St.del (.tail .head) hw25
            try clear hw25
            have hw27 := St.del (.tail .head) hw26
            try clear hw26
            have hw28 := St.del (.tail .head) hw27
            try clear hw27
            have hw29 := St.del (.tail .head) hw28
            try clear hw28
            have hw30 := St.del (.tail .head) hw29
            try clear hw29
            refine v_lit hw30 rfl rfl Try.underlying66 ti22 rfl (.cons rfl (by first | rfl | assumption) .nil) rfl rfl rfl (fun b23_2 w31 hw31 => ?_)
            try clear hw30
            refine v_push hw31 rfl rfl Try.underlying66 ti22 rfl rfl rfl rfl (by first | (simp [Value.oneCell']; done) | (intro u hu; rw [List.mem_singleton.1 hu]; assumption)) (by first | (simp; done) | (simp; omega)) (by first | (simp; done) | (simp; omega)) (fun v23_3 w32 hw32 => ?_)
            try clear hw31
            have hUw : Rg 0 18446744073709551615 (lw ++ [0]) := fun x hx => (List.mem_append.1 hx).elim (cnU hcw x) (fun h => by have e : x = 0 := (by simpa using h); omega)
            have hi2 : ints .u64 (lw ++ [0]) = ints .u64 lw ++ [.int .u64 0] := by simp [ints]
            have hw33 := hw32.cast (σ' := [As.ro 22 v23_3 (ints .u64 (lw ++ [0]))]) (by rw [hi2])
            try clear hw32
            refine v_getr (j := 0) rfl rfl rfl rfl Try.underlying66 tz22 Try.underlying22 rfl rfl (by first | exact hw33.io mem0 | assumption) (by assumption) rfl (by omega) (by first | omega | (simp; done) | (simp; omega)) (fun hb23_4 => ?_)
            refine l_move rfl rfl rfl ?_
            have hm23 : (lw ++ [0]).getD 0 0 = pickM d (b % d.S) (fX d (b % d.S)) (fY d (b % d.S)) e := by
              have h0 := limb_of hUw 0
              rw [Int.pow_zero, Int.ediv_one] at h0
              have ev : nv (lw ++ [0]) = pickM d (b % d.S) (fX d (b % d.S)) (fY d (b % d.S)) e := by
                show Ma.vb _ _ = _
                rw [Ma.vb_append]
                simp [Ma.vb]
                rw [hpk]
                exact hcw.val
              rw [h0, ev]
              omega
            refine l_turn (s := 124) (v' := .int .u64 (pickM d (b % d.S) (fX d (b % d.S)) (fY d (b % d.S)) e)) rfl (congrArg (Value.int .u64) hm23) ?_
            refine l_call rfl rfl Try.func42 rfl rfl (.cons rfl (.cons rfl .nil)) (shorter10 (pickM d (b % d.S) (fX d (b % d.S)) (fY d (b % d.S)) e) e ⟨hpp, hpb⟩ (by omega) w32) ?_
            rintro _ _ ⟨⟨m, e2, rfl, hst⟩, rfl⟩
            refine l_extract rfl rfl rfl rfl ?_
            refine l_extract rfl rfl rfl rfl ?_
            refine l_extract rfl rfl rfl rfl ?_
            refine l_assign rfl rfl rfl ?_
            refine l_assign rfl rfl rfl ?_
            refine l_assign rfl rfl rfl ?_
            refine l_nil ?_
            refine e_then ?_
            refine c_keep [4, 5, 6] (.cons rfl (.cons rfl (.cons rfl .nil))) ?_
            refine c_ret ?_
            refine e_blk_ret ?_
            refine e_then_ret ?_
            refine e_then_ret ?_
            refine e_blk_ret ?_
            refine e_then_ret ?_
            refine e_doneN Try.results15 (.tmp rfl (.tmp rfl (.tmp rfl .nil))) rfl ?_
            refine ⟨_, rfl, ?_⟩
            have hw34 := St.del .head hw33
            try clear hw33
            exact ⟨_, _, _, rfl, ⟨by omega, fun h => absurd rfl h, fun _ => ⟨d, hk, hltS, hlo, hhi, ⟨t, e, ⟨ht, by omega, fun g h1 h2 => hno g (by omega) h2, hhit⟩, hst⟩⟩⟩, hw34.grows⟩
          · skip
            have hpk : pickM d (b % d.S) (fX d (b % d.S)) (fY d (b % d.S)) e = fQ (fX d (b % d.S)) (fY d (b % d.S)) e := if_neg (c := upp d (b % d.S) (fX d (b % d.S)) (fY d (b % d.S)) e) hc4
            refine c_skip ?_
            refine e_then ?_
            refine c_keep [13, 23] (.cons rfl (.cons rfl .nil)) ?_
            refine c_seq ?_
            refine c_region ?_
            refine l_move rfl rfl rfl ?_
            refine l_call rfl rfl Try.func43 rfl rfl (.cons rfl .nil) (wordsR vq lq _ hRq (by omega) w20 (hw20.io mem3)) ?_
            rintro vw w35 ⟨_, lw, rfl, hcw, hG⟩
            have hw35 := hG _ _ _ _ hw20
            try clear hG hw20
            simp only [List.cons_append, List.nil_append] at hw35
            have hlw : lw.length ≤ 3 := by first | (have := cn_lenb hcw hub; omega) | (have := cn_lenb hcw hqb; omega)
            have hw36 := St.del (.tail .head) hw35
            try clear hw35
            have hw37 := St.del (.tail .head) hw36
            try clear hw36
            have hw38 := St.del (.tail .head) hw37
            try clear hw37
            have hw39 := St.del (.tail .head) hw38
            try clear hw38
            have hw40 := St.del (.tail .head) hw39
            try clear hw39
            have hw41 := St.del (.tail .head) hw40
            try clear hw40
            have hw42 := St.del (.tail .head) hw41
            try clear hw41
            have hw43 := St.del (.tail .head) hw42
            try clear hw42
            have hw44 := St.del (.tail .head) hw43
            try clear hw43
            refine v_lit hw44 rfl rfl Try.underlying66 ti22 rfl (.cons rfl (by first | rfl | assumption) .nil) rfl rfl rfl (fun b23_2 w45 hw45 => ?_)
            try clear hw44
            refine v_push hw45 rfl rfl Try.underlying66 ti22 rfl rfl rfl rfl (by first | (simp [Value.oneCell']; done) | (intro u hu; rw [List.mem_singleton.1 hu]; assumption)) (by first | (simp; done) | (simp; omega)) (by first | (simp; done) | (simp; omega)) (fun v23_3 w46 hw46 => ?_)
            try clear hw45
            have hUw : Rg 0 18446744073709551615 (lw ++ [0]) := fun x hx => (List.mem_append.1 hx).elim (cnU hcw x) (fun h => by have e : x = 0 := (by simpa using h); omega)
            have hi2 : ints .u64 (lw ++ [0]) = ints .u64 lw ++ [.int .u64 0] := by simp [ints]
            have hw47 := hw46.cast (σ' := [As.ro 22 v23_3 (ints .u64 (lw ++ [0]))]) (by rw [hi2])
            try clear hw46
            refine v_getr (j := 0) rfl rfl rfl rfl Try.underlying66 tz22 Try.underlying22 rfl rfl (by first | exact hw47.io mem0 | assumption) (by assumption) rfl (by omega) (by first | omega | (simp; done) | (simp; omega)) (fun hb23_4 => ?_)
            refine l_move rfl rfl rfl ?_
            have hm23 : (lw ++ [0]).getD 0 0 = pickM d (b % d.S) (fX d (b % d.S)) (fY d (b % d.S)) e := by
              have h0 := limb_of hUw 0
              rw [Int.pow_zero, Int.ediv_one] at h0
              have ev : nv (lw ++ [0]) = pickM d (b % d.S) (fX d (b % d.S)) (fY d (b % d.S)) e := by
                show Ma.vb _ _ = _
                rw [Ma.vb_append]
                simp [Ma.vb]
                rw [hpk]
                exact hcw.val
              rw [h0, ev]
              omega
            refine l_turn (s := 124) (v' := .int .u64 (pickM d (b % d.S) (fX d (b % d.S)) (fY d (b % d.S)) e)) rfl (congrArg (Value.int .u64) hm23) ?_
            refine l_call rfl rfl Try.func42 rfl rfl (.cons rfl (.cons rfl .nil)) (shorter10 (pickM d (b % d.S) (fX d (b % d.S)) (fY d (b % d.S)) e) e ⟨hpp, hpb⟩ (by omega) w46) ?_
            rintro _ _ ⟨⟨m, e2, rfl, hst⟩, rfl⟩
            refine l_extract rfl rfl rfl rfl ?_
            refine l_extract rfl rfl rfl rfl ?_
            refine l_extract rfl rfl rfl rfl ?_
            refine l_assign rfl rfl rfl ?_
            refine l_assign rfl rfl rfl ?_
            refine l_assign rfl rfl rfl ?_
            refine l_nil ?_
            refine e_then ?_
            refine c_keep [4, 5, 6] (.cons rfl (.cons rfl (.cons rfl .nil))) ?_
            refine c_ret ?_
            refine e_blk_ret ?_
            refine e_then_ret ?_
            refine e_then_ret ?_
            refine e_blk_ret ?_
            refine e_then_ret ?_
            refine e_doneN Try.results15 (.tmp rfl (.tmp rfl (.tmp rfl .nil))) rfl ?_
            refine ⟨_, rfl, ?_⟩
            have hw48 := St.del .head hw47
            try clear hw47
            exact ⟨_, _, _, rfl, ⟨by omega, fun h => absurd rfl h, fun _ => ⟨d, hk, hltS, hlo, hhi, ⟨t, e, ⟨ht, by omega, fun g h1 h2 => hno g (by omega) h2, hhit⟩, hst⟩⟩⟩, hw48.grows⟩
      · skip
        refine c_region ?_
        refine l_move rfl rfl rfl ?_
        refine l_move rfl rfl rfl ?_
        refine l_neg rfl rfl rfl (w_i64 (by omega)) ?_
        refine l_call rfl rfl Try.func25 rfl rfl (.cons rfl .nil) (tenR (0 - e) (by omega) w5) ?_
        rintro vt w49 ⟨_, lt, rfl, hRt, hG⟩
        have hw49 := hG _ _ _ _ hw5
        try clear hG hw5
        simp only [List.cons_append, List.nil_append] at hw49
        have hb10 := blen_10 (0 - e).toNat
        have hllt := hRt.len hb10
        refine l_call rfl rfl Try.func24 rfl rfl (.cons rfl (.cons rfl .nil)) (prodR vx vt lx lt _ _ hRx hRt (by omega) (by omega) w49 (hw49.io mem2) (hw49.io mem0)) ?_
        rintro vp w50 ⟨_, lp, rfl, hRp, hG⟩
        have hw50 := hG _ _ _ _ hw49
        try clear hG hw49
        simp only [List.cons_append, List.nil_append] at hw50
        have hRn : R16 lp (fN (fX d (b % d.S)) e) := by unfold fN; rw [show -e = 0 - e by omega]; exact hRp
        have hRd : R16 ly (fD (fY d (b % d.S)) e) := by unfold fD; rw [show e.toNat = 0 by omega, Int.pow_zero, Int.mul_one]; exact hRy
        have hNb := fN_blen (Int.le_of_lt hfl.hx) (e := e) (by omega) (by omega)
        have hDb := fD_blen hfl.hy (e := e) (by omega) (by omega)
        have hlnn := hRn.len hNb
        have hldd := hRd.len hDb
        have hDp := fD_pos hfl.hy e
        
        refine l_assign rfl rfl rfl ?_
        refine l_nil ?_
        refine e_then ?_
        refine c_keep [0, 7, 8, 10, 11, 12, 13, 14, 15] (.cons rfl (.cons rfl (.cons rfl (.cons rfl (.cons rfl (.cons rfl (.cons rfl (.cons rfl (.cons rfl .nil))))))))) ?_
        refine c_seq ?_
        refine c_region ?_
        refine l_move rfl rfl rfl ?_
        refine l_move rfl rfl rfl ?_
        refine l_call rfl rfl Try.func40 rfl rfl (.cons rfl (.cons rfl .nil)) (overR vp vy lp ly _ _ hRn hRd (by omega) (by omega) hDp w50 (hw50.io mem0) (hw50.io mem2)) ?_
        rintro _ w51 ⟨vq, vr, lq, lr, rfl, hRq, hRr, hG⟩
        have hw51 := hG _ _ _ _ hw50
        try clear hG hw50
        simp only [List.cons_append, List.nil_append] at hw51
        have hRq : R16 lq (fQ (fX d (b % d.S)) (fY d (b % d.S)) e) := hRq
        have hr0 := Int.emod_nonneg (fN (fX d (b % d.S)) e) (show fD (fY d (b % d.S)) e ≠ 0 by omega)
        have hr1 := Int.emod_lt_of_pos (fN (fX d (b % d.S)) e) hDp
        have hblr := Ma.blen_mono hr0 (Int.le_of_lt hr1)
        have hllr := hRr.len (k := 2881) (by omega)
        have hqb : Ma.blen (fQ (fX d (b % d.S)) (fY d (b % d.S)) e) ≤ (100 : Nat) := (Ma.blen_le_iff (n := fQ (fX d (b % d.S)) (fY d (b % d.S)) e) (by omega) 100).2 (by omega)
        have hub : Ma.blen (fQ (fX d (b % d.S)) (fY d (b % d.S)) e + 1) ≤ (100 : Nat) := (Ma.blen_le_iff (n := fQ (fX d (b % d.S)) (fY d (b % d.S)) e + 1) (by omega) 100).2 (by omega)
        have hllq := hRq.len hqb
        refine l_move rfl rfl rfl ?_
        refine l_extract rfl rfl rfl rfl ?_
        refine l_extract rfl rfl rfl rfl ?_
        refine l_assign rfl rfl rfl ?_
        refine l_assign rfl rfl rfl ?_
        refine l_nil ?_
        refine e_then ?_
        refine c_keep [0, 7, 8, 10, 11, 12, 13, 15, 16, 17] (.cons rfl (.cons rfl (.cons rfl (.cons rfl (.cons rfl (.cons rfl (.cons rfl (.cons rfl (.cons rfl (.cons rfl .nil)))))))))) ?_
        refine c_seq ?_
        refine c_region ?_
        refine l_move rfl rfl rfl ?_
        refine v_lit hw51 rfl rfl Try.underlying46 ti3 rfl (.cons rfl (by first | rfl | assumption) .nil) rfl rfl rfl (fun b15_1 w52 hw52 => ?_)
        try clear hw51
        refine l_call rfl rfl Try.func41 rfl rfl (.cons rfl (.cons rfl .nil)) (sumR vq _ lq [1] _ 1 hRq R16.one1 (by omega) (by simp) w52 (hw52.io mem1) (hw52.ibl mem0)) ?_
        rintro vup w53 ⟨_, lup, rfl, hRu, hG⟩
        have hw53 := hG _ _ _ _ hw52
        try clear hG hw52
        simp only [List.cons_append, List.nil_append] at hw53
        have hllu := hRu.len hub
        refine l_assign rfl rfl rfl ?_
        refine l_nil ?_
        refine e_then ?_
        refine c_keep [0, 7, 8, 10, 11, 12, 13, 15, 16, 17, 18] (.cons rfl (.cons rfl (.cons rfl (.cons rfl (.cons rfl (.cons rfl (.cons rfl (.cons rfl (.cons rfl (.cons rfl (.cons rfl .nil))))))))))) ?_
        refine c_seq ?_
        refine c_region ?_
        refine l_move rfl rfl rfl ?_
        refine l_move rfl rfl rfl ?_
        refine l_move rfl rfl rfl ?_
        refine l_move rfl rfl rfl ?_
        refine l_call rfl rfl Try.func37 rfl rfl (.cons rfl (.cons rfl (.cons rfl (.cons rfl .nil)))) (reads10 k d hk (b % d.S) (fQ (fX d (b % d.S)) (fY d (b % d.S)) e) e ⟨hlo, hhi⟩ vq lq hRq hqb w53 (hw53.io mem2)) ?_
        rintro _ w54 ⟨rfl, hG⟩
        have hw54 := hG _ _ _ _ hw53
        try clear hG hw53
        simp only [List.cons_append, List.nil_append] at hw54
        refine l_move rfl rfl rfl ?_
        refine l_move rfl rfl rfl ?_
        refine l_move rfl rfl rfl ?_
        refine l_move rfl rfl rfl ?_
        refine l_call rfl rfl Try.func37 rfl rfl (.cons rfl (.cons rfl (.cons rfl (.cons rfl .nil)))) (reads10 k d hk (b % d.S) (fQ (fX d (b % d.S)) (fY d (b % d.S)) e + 1) e ⟨hlo, hhi⟩ vup lup hRu hub w54 (hw54.io mem0)) ?_
        rintro _ w55 ⟨rfl, hG⟩
        have hw55 := hG _ _ _ _ hw54
        try clear hG hw54
        simp only [List.cons_append, List.nil_append] at hw55
        refine l_turn (s := 74) (v' := .bool (decide (rdQ d (b % d.S) (fQ (fX d (b % d.S)) (fY d (b % d.S)) e) e))) rfl (congrArg Value.bool (decide_eq_decide.2 (rdQ_iff ⟨hlo, hhi⟩ (by omega)).symm)) ?_
        refine l_assign rfl rfl rfl ?_
        refine l_turn (s := 79) (v' := .bool (decide (rdQ d (b % d.S) (fQ (fX d (b % d.S)) (fY d (b % d.S)) e + 1) e))) rfl (congrArg Value.bool (decide_eq_decide.2 (rdQ_iff ⟨hlo, hhi⟩ (by omega)).symm)) ?_
        refine l_assign rfl rfl rfl ?_
        refine l_nil ?_
        refine e_then ?_
        refine c_keep [0, 7, 8, 10, 11, 12, 13, 15, 16, 17, 18, 19, 20] (.cons rfl (.cons rfl (.cons rfl (.cons rfl (.cons rfl (.cons rfl (.cons rfl (.cons rfl (.cons rfl (.cons rfl (.cons rfl (.cons rfl (.cons rfl .nil))))))))))))) ?_
        refine c_seq ?_
        refine c_seq ?_
        refine c_region ?_
        refine l_move rfl rfl rfl ?_
        first | refine l_notd rfl rfl rfl ?_ | refine l_not rfl rfl rfl ?_
        refine l_turn (s := 81) (v' := .bool (decide (¬ rdQ d (b % d.S) (fQ (fX d (b % d.S)) (fY d (b % d.S)) e) e))) rfl (by rw [decide_not]) ?_
        refine l_move rfl rfl rfl ?_
        apply l_and 2 [0, 7, 8, 10, 11, 12, 13, 15, 16, 17, 18, 19, 20] rfl rfl (.cons rfl (.cons rfl (.cons rfl (.cons rfl (.cons rfl (.cons rfl (.cons rfl (.cons rfl (.cons rfl (.cons rfl (.cons rfl (.cons rfl (.cons rfl (.cons rfl .nil)))))))))))))) rfl rfl (fun _ => rfl) rfl rfl rfl
        · intro hg17_3
          refine l_move rfl rfl rfl ?_
          first | refine l_notd rfl rfl rfl ?_ | refine l_not rfl rfl rfl ?_
          refine l_nil ?_
          exact e_stays rfl (.cons rfl (congrArg Value.bool (decide_eq_true hg17_3).symm) (.cons rfl rfl (.cons rfl rfl (.cons rfl rfl (.cons rfl rfl (.cons rfl rfl (.cons rfl rfl (.cons rfl rfl (.cons rfl rfl (.cons rfl rfl (.cons rfl rfl (.cons rfl rfl (.cons rfl rfl (.cons rfl rfl .nil))))))))))))))
          all_goals infer_instance
        refine l_nil ?_
        refine e_then ?_
        refine c_keep [0, 7, 8, 10, 11, 12, 13, 15, 16, 17, 18, 19, 20, 85] (.cons rfl (.cons rfl (.cons rfl (.cons rfl (.cons rfl (.cons rfl (.cons rfl (.cons rfl (.cons rfl (.cons rfl (.cons rfl (.cons rfl (.cons rfl (.cons rfl .nil)))))))))))))) ?_
        first | refine c_cond rfl (fun hc5 => ?_) (fun hc5 => ?_) | refine c_condb rfl (fun hc5 => ?_) (fun hc5 => ?_)
        · skip
          refine c_exit ?_
          refine e_then_exit ?_
          refine e_blk_exit ?_
          refine e_then ?_
          refine c_keep [0, 7, 8, 10, 11, 12] (.cons rfl (.cons rfl (.cons rfl (.cons rfl (.cons rfl (.cons rfl .nil)))))) ?_
          refine c_region ?_
          refine l_move rfl rfl rfl ?_
          refine l_add rfl rfl rfl rfl (w_i64 (by omega)) ?_
          refine l_assign rfl rfl rfl ?_
          refine l_nil ?_
          have hmiss : ¬ hit d (b % d.S) (fX d (b % d.S)) (fY d (b % d.S)) e := fun h => h.elim hc5.1 hc5.2
          obtain ⟨hf3, hno2⟩ := no_next ⟨hlo, hhi⟩ hfl ht (by omega) (by omega) (fun g h1 h2 => hno g (by omega) h2) hmiss
          have hw56 := St.del (.tail (.tail (.tail (.tail (.tail .head))))) hw55
          try clear hw55
          have hw57 := St.del (.tail (.tail (.tail (.tail .head)))) hw56
          try clear hw56
          have hw58 := St.del (.tail (.tail (.tail .head))) hw57
          try clear hw57
          have hw59 := St.del (.tail (.tail .head)) hw58
          try clear hw58
          have hw60 := St.del (.tail .head) hw59
          try clear hw59
          have hw61 := St.del .head hw60
          try clear hw60
          refine e_againk (i := (n)) (n + 1) ?_ ?_ (.cons rfl (.cons rfl (.cons rfl (.cons rfl (.cons rfl .nil))))) ?_
          · first | omega | (simp; omega)
          · exact ⟨hw61, by omega, by omega, fun g h1 h2 => hno2 g (by omega) h2⟩
          · exact (.cons rfl (by first | rfl | (refine congrArg (Value.int _) ?_; omega)) .nil)
        · skip
          refine c_skip ?_
          refine e_then ?_
          refine c_keep [13, 15, 16, 17, 18, 19, 20] (.cons rfl (.cons rfl (.cons rfl (.cons rfl (.cons rfl (.cons rfl (.cons rfl .nil))))))) ?_
          refine c_seq ?_
          refine c_region ?_
          have hhit : hit d (b % d.S) (fX d (b % d.S)) (fY d (b % d.S)) e := Classical.byContradiction fun h => by first | exact hc3 ⟨fun a => h (.inl a), fun b => h (.inr b)⟩ | exact hc5 ⟨fun a => h (.inl a), fun b => h (.inr b)⟩
          have hpp := pick_pos (Int.le_of_lt hfl.hx) hfl.hy ht hhit
          have hpb := pick_le (d := d) (b := b % d.S) hq.2
          refine l_move rfl rfl rfl ?_
          refine l_move rfl rfl rfl ?_
          refine l_call rfl rfl Try.func41 rfl rfl (.cons rfl (.cons rfl .nil)) (sumR vr vr lr lr _ _ hRr hRr (by omega) (by omega) w55 (hw55.io mem3) (hw55.io mem3)) ?_
          rintro vs w62 ⟨_, ls, rfl, hRs, hG⟩
          have hw62 := hG _ _ _ _ hw55
          try clear hG hw55
          simp only [List.cons_append, List.nil_append] at hw62
          have hbls := blen_mul (x := fN (fX d (b % d.S)) e % fD (fY d (b % d.S)) e) (y := 2) hr0 (by omega) (m := 2881) (n := 2) (by omega) (by decide)
          have hRs2 : R16 ls (fN (fX d (b % d.S)) e % fD (fY d (b % d.S)) e * 2) := by rw [show fN (fX d (b % d.S)) e % fD (fY d (b % d.S)) e * 2 = fN (fX d (b % d.S)) e % fD (fY d (b % d.S)) e + fN (fX d (b % d.S)) e % fD (fY d (b % d.S)) e from by omega]; exact hRs
          have hlls := hRs2.len hbls
          refine l_move rfl rfl rfl ?_
          refine l_call rfl rfl Try.func26 rfl rfl (.cons rfl (.cons rfl .nil)) (cmpR _ _ _ _ _ _ hRs hRd (by omega) (by omega) w62 (hw62.io mem0) (hw62.io mem7)) ?_
          rintro _ w63 ⟨rfl, hG⟩
          have hw63 := hG _ _ _ _ hw62
          try clear hG hw62
          simp only [List.cons_append, List.nil_append] at hw63
          refine l_turn (s := 90) (v' := .int .i64 (hfS (fX d (b % d.S)) (fY d (b % d.S)) e)) rfl (congrArg (Value.int .i64) (by unfold hfS; rw [Int.two_mul])) ?_
          refine l_assign rfl rfl rfl ?_
          refine l_nil ?_
          refine e_then ?_
          refine c_keep [13, 16, 18, 19, 20, 21] (.cons rfl (.cons rfl (.cons rfl (.cons rfl (.cons rfl (.cons rfl .nil)))))) ?_
          refine c_seq ?_
          refine c_region ?_
          have hDq : Rg 0 65535 lq := hRq.d
          refine l_move rfl rfl rfl ?_
          refine v_leni rfl rfl Try.underlying46 rfl (by first | exact hw63.io mem0 | exact hw63.io mem1 | exact hw63.ibl mem2 | exact hw63.io mem3 | exact hw63.io mem4 | exact hw63.io mem5 | exact hw63.io mem6 | exact hw63.io mem7 | exact hw63.io mem8 | assumption) ?_
          refine l_gtr rfl rfl rfl rfl ?_
          refine l_move rfl rfl rfl ?_
          apply l_and (q := lq.getD 0 0 % 2 = 1) 5 [13, 16, 18, 19, 20, 21] rfl rfl (.cons rfl (.cons rfl (.cons rfl (.cons rfl (.cons rfl (.cons rfl (.cons rfl .nil))))))) rfl rfl (fun _ => rfl) rfl rfl rfl
          · intro hg19_4
            refine l_move rfl rfl rfl ?_
            refine v_getr (j := 0) rfl rfl rfl rfl Try.underlying46 tz3 Try.underlying3 rfl rfl (by first | exact hw63.io mem0 | exact hw63.io mem1 | exact hw63.ibl mem2 | exact hw63.io mem3 | exact hw63.io mem4 | exact hw63.io mem5 | exact hw63.io mem6 | exact hw63.io mem7 | exact hw63.io mem8 | assumption) (by assumption) rfl (by omega) (by first | omega | (simp; done) | (simp; omega)) (fun hb19_5 => ?_)
            refine l_rem rfl rfl rfl rfl (by omega) (r_pos (by omega)) ?_
            refine l_eql rfl rfl rfl rfl ?_
            refine l_nil ?_
            exact e_stays rfl (.cons rfl (congrArg Value.bool (decide_eq_true hg19_4).symm) (.cons rfl rfl (.cons rfl rfl (.cons rfl rfl (.cons rfl rfl (.cons rfl rfl (.cons rfl rfl .nil)))))))
            all_goals infer_instance
          refine l_turn (s := 100) (v' := .bool (decide (fQ (fX d (b % d.S)) (fY d (b % d.S)) e % 2 = 1))) rfl (congrArg Value.bool (decide_eq_decide.2 (by have := odd16 hRq; omega))) ?_
          refine l_assign rfl rfl rfl ?_
          refine l_nil ?_
          refine e_then ?_
          refine c_keep [13, 16, 18, 19, 20, 21, 22] (.cons rfl (.cons rfl (.cons rfl (.cons rfl (.cons rfl (.cons rfl (.cons rfl .nil))))))) ?_
          refine c_seq ?_
          refine c_region ?_
          refine l_move rfl rfl rfl ?_
          refine l_assign rfl rfl rfl ?_
          refine l_nil ?_
          refine e_then ?_
          refine c_keep [13, 18, 19, 20, 21, 22, 23] (.cons rfl (.cons rfl (.cons rfl (.cons rfl (.cons rfl (.cons rfl (.cons rfl .nil))))))) ?_
          refine c_seq ?_
          refine c_seq ?_
          refine c_region ?_
          refine l_move rfl rfl rfl ?_
          first | refine l_notd rfl rfl rfl ?_ | refine l_not rfl rfl rfl ?_
          refine l_turn (s := 103) (v' := .bool (decide (¬ rdQ d (b % d.S) (fQ (fX d (b % d.S)) (fY d (b % d.S)) e) e))) rfl (by rw [decide_not]) ?_
          refine l_move rfl rfl rfl ?_
          apply l_or (q := rdQ d (b % d.S) (fQ (fX d (b % d.S)) (fY d (b % d.S)) e + 1) e ∧ (0 < hfS (fX d (b % d.S)) (fY d (b % d.S)) e ∨ (hfS (fX d (b % d.S)) (fY d (b % d.S)) e = 0 ∧ fQ (fX d (b % d.S)) (fY d (b % d.S)) e % 2 = 1))) 12 [13, 18, 23] rfl rfl (.cons rfl (.cons rfl (.cons rfl (.cons rfl .nil)))) rfl rfl (fun _ => rfl) rfl rfl rfl
          · intro hg21_3
            refine l_move rfl rfl rfl ?_
            refine l_move rfl rfl rfl ?_
            apply l_and (q := 0 < hfS (fX d (b % d.S)) (fY d (b % d.S)) e ∨ (hfS (fX d (b % d.S)) (fY d (b % d.S)) e = 0 ∧ fQ (fX d (b % d.S)) (fY d (b % d.S)) e % 2 = 1)) 9 [13, 18, 23, 104] rfl rfl (.cons rfl (.cons rfl (.cons rfl (.cons rfl (.cons rfl .nil))))) rfl rfl (fun _ => rfl) rfl rfl rfl
            · intro hg21_5
              refine l_move rfl rfl rfl ?_
              refine l_gtr rfl rfl rfl rfl ?_
              refine l_move rfl rfl rfl ?_
              apply l_or (q := hfS (fX d (b % d.S)) (fY d (b % d.S)) e = 0 ∧ fQ (fX d (b % d.S)) (fY d (b % d.S)) e % 2 = 1) 5 [13, 18, 23, 104, 106] rfl rfl (.cons rfl (.cons rfl (.cons rfl (.cons rfl (.cons rfl (.cons rfl .nil)))))) rfl rfl (fun _ => rfl) rfl rfl rfl
              · intro hg21_8
                refine l_move rfl rfl rfl ?_
                refine l_eql rfl rfl rfl rfl ?_
                refine l_move rfl rfl rfl ?_
                apply l_and (q := fQ (fX d (b % d.S)) (fY d (b % d.S)) e % 2 = 1) 1 [13, 18, 23, 104, 106, 109] rfl rfl (.cons rfl (.cons rfl (.cons rfl (.cons rfl (.cons rfl (.cons rfl (.cons rfl .nil))))))) rfl rfl (fun _ => rfl) rfl rfl rfl
                · intro hg21_11
                  refine l_move rfl rfl rfl ?_
                  refine l_nil ?_
                  exact e_stays rfl (.cons rfl (congrArg Value.bool (decide_eq_true hg21_11).symm) (.cons rfl rfl (.cons rfl rfl (.cons rfl rfl (.cons rfl rfl (.cons rfl rfl (.cons rfl rfl .nil)))))))
                  all_goals infer_instance
                refine l_nil ?_
                exact e_stays rfl (.cons rfl (congrArg Value.bool (decide_eq_false hg21_8).symm) (.cons rfl rfl (.cons rfl rfl (.cons rfl rfl (.cons rfl rfl (.cons rfl rfl .nil))))))
                all_goals infer_instance
              refine l_nil ?_
              exact e_stays rfl (.cons rfl (congrArg Value.bool (decide_eq_true hg21_5).symm) (.cons rfl rfl (.cons rfl rfl (.cons rfl rfl (.cons rfl rfl .nil)))))
              all_goals infer_instance
            refine l_nil ?_
            exact e_stays rfl (.cons rfl (congrArg Value.bool (decide_eq_false hg21_3).symm) (.cons rfl rfl (.cons rfl rfl (.cons rfl rfl .nil))))
            all_goals infer_instance
          refine l_nil ?_
          refine e_then ?_
          refine c_keep [13, 18, 23, 117] (.cons rfl (.cons rfl (.cons rfl (.cons rfl .nil)))) ?_
          first | refine c_cond rfl (fun hc6 => ?_) (fun hc6 => ?_) | refine c_condb rfl (fun hc6 => ?_) (fun hc6 => ?_)
          · skip
            have hpk : pickM d (b % d.S) (fX d (b % d.S)) (fY d (b % d.S)) e = fQ (fX d (b % d.S)) (fY d (b % d.S)) e + 1 := if_pos (c := upp d (b % d.S) (fX d (b % d.S)) (fY d (b % d.S)) e) hc6
            refine c_region ?_
            refine l_move rfl rfl rfl ?_
            refine l_assign rfl rfl rfl ?_
            refine l_nil ?_
            refine e_then ?_
            refine c_keep [13, 23] (.cons rfl (.cons rfl .nil)) ?_
            refine c_seq ?_
            refine c_region ?_
            refine l_move rfl rfl rfl ?_
            refine l_call rfl rfl Try.func43 rfl rfl (.cons rfl .nil) (wordsR vup lup _ hRu (by omega) w63 (hw63.io mem1)) ?_
            rintro vw w64 ⟨_, lw, rfl, hcw, hG⟩
            have hw64 := hG _ _ _ _ hw63
            try clear hG hw63
            simp only [List.cons_append, List.nil_append] at hw64
            have hlw : lw.length ≤ 3 := by first | (have := cn_lenb hcw hub; omega) | (have := cn_lenb hcw hqb; omega)
            have hw65 := St.del (.tail .head) hw64
            try clear hw64
            have hw66 := St.del (.tail .head) hw65
            try clear hw65
            have hw67 := St.del (.tail .head) hw66
            try clear hw66
            have hw68 := St.del (.tail .head) hw67
            try clear hw67
            have hw69 := St.del (.tail .head) hw68
            try clear hw68
            have hw70 := St.del (.tail .head) hw69
            try clear hw69
            have hw71 := St.del (.tail .head) hw70
            try clear hw70
            have hw72 := St.del (.tail .head) hw71
            try clear hw71
            have hw73 := St.del (.tail .head) hw72
            try clear hw72
            refine v_lit hw73 rfl rfl Try.underlying66 ti22 rfl (.cons rfl (by first | rfl | assumption) .nil) rfl rfl rfl (fun b23_2 w74 hw74 => ?_)
            try clear hw73
            refine v_push hw74 rfl rfl Try.underlying66 ti22 rfl rfl rfl rfl (by first | (simp [Value.oneCell']; done) | (intro u hu; rw [List.mem_singleton.1 hu]; assumption)) (by first | (simp; done) | (simp; omega)) (by first | (simp; done) | (simp; omega)) (fun v23_3 w75 hw75 => ?_)
            try clear hw74
            have hUw : Rg 0 18446744073709551615 (lw ++ [0]) := fun x hx => (List.mem_append.1 hx).elim (cnU hcw x) (fun h => by have e : x = 0 := (by simpa using h); omega)
            have hi2 : ints .u64 (lw ++ [0]) = ints .u64 lw ++ [.int .u64 0] := by simp [ints]
            have hw76 := hw75.cast (σ' := [As.ro 22 v23_3 (ints .u64 (lw ++ [0]))]) (by rw [hi2])
            try clear hw75
            refine v_getr (j := 0) rfl rfl rfl rfl Try.underlying66 tz22 Try.underlying22 rfl rfl (by first | exact hw76.io mem0 | assumption) (by assumption) rfl (by omega) (by first | omega | (simp; done) | (simp; omega)) (fun hb23_4 => ?_)
            refine l_move rfl rfl rfl ?_
            have hm23 : (lw ++ [0]).getD 0 0 = pickM d (b % d.S) (fX d (b % d.S)) (fY d (b % d.S)) e := by
              have h0 := limb_of hUw 0
              rw [Int.pow_zero, Int.ediv_one] at h0
              have ev : nv (lw ++ [0]) = pickM d (b % d.S) (fX d (b % d.S)) (fY d (b % d.S)) e := by
                show Ma.vb _ _ = _
                rw [Ma.vb_append]
                simp [Ma.vb]
                rw [hpk]
                exact hcw.val
              rw [h0, ev]
              omega
            refine l_turn (s := 124) (v' := .int .u64 (pickM d (b % d.S) (fX d (b % d.S)) (fY d (b % d.S)) e)) rfl (congrArg (Value.int .u64) hm23) ?_
            refine l_call rfl rfl Try.func42 rfl rfl (.cons rfl (.cons rfl .nil)) (shorter10 (pickM d (b % d.S) (fX d (b % d.S)) (fY d (b % d.S)) e) e ⟨hpp, hpb⟩ (by omega) w75) ?_
            rintro _ _ ⟨⟨m, e2, rfl, hst⟩, rfl⟩
            refine l_extract rfl rfl rfl rfl ?_
            refine l_extract rfl rfl rfl rfl ?_
            refine l_extract rfl rfl rfl rfl ?_
            refine l_assign rfl rfl rfl ?_
            refine l_assign rfl rfl rfl ?_
            refine l_assign rfl rfl rfl ?_
            refine l_nil ?_
            refine e_then ?_
            refine c_keep [4, 5, 6] (.cons rfl (.cons rfl (.cons rfl .nil))) ?_
            refine c_ret ?_
            refine e_blk_ret ?_
            refine e_then_ret ?_
            refine e_then_ret ?_
            refine e_blk_ret ?_
            refine e_then_ret ?_
            refine e_doneN Try.results15 (.tmp rfl (.tmp rfl (.tmp rfl .nil))) rfl ?_
            refine ⟨_, rfl, ?_⟩
            have hw77 := St.del .head hw76
            try clear hw76
            exact ⟨_, _, _, rfl, ⟨by omega, fun h => absurd rfl h, fun _ => ⟨d, hk, hltS, hlo, hhi, ⟨t, e, ⟨ht, by omega, fun g h1 h2 => hno g (by omega) h2, hhit⟩, hst⟩⟩⟩, hw77.grows⟩
          · skip
            have hpk : pickM d (b % d.S) (fX d (b % d.S)) (fY d (b % d.S)) e = fQ (fX d (b % d.S)) (fY d (b % d.S)) e := if_neg (c := upp d (b % d.S) (fX d (b % d.S)) (fY d (b % d.S)) e) hc6
            refine c_skip ?_
            refine e_then ?_
            refine c_keep [13, 23] (.cons rfl (.cons rfl .nil)) ?_
            refine c_seq ?_
            refine c_region ?_
            refine l_move rfl rfl rfl ?_
            refine l_call rfl rfl Try.func43 rfl rfl (.cons rfl .nil) (wordsR vq lq _ hRq (by omega) w63 (hw63.io mem3)) ?_
            rintro vw w78 ⟨_, lw, rfl, hcw, hG⟩
            have hw78 := hG _ _ _ _ hw63
            try clear hG hw63
            simp only [List.cons_append, List.nil_append] at hw78
            have hlw : lw.length ≤ 3 := by first | (have := cn_lenb hcw hub; omega) | (have := cn_lenb hcw hqb; omega)
            have hw79 := St.del (.tail .head) hw78
            try clear hw78
            have hw80 := St.del (.tail .head) hw79
            try clear hw79
            have hw81 := St.del (.tail .head) hw80
            try clear hw80
            have hw82 := St.del (.tail .head) hw81
            try clear hw81
            have hw83 := St.del (.tail .head) hw82
            try clear hw82
            have hw84 := St.del (.tail .head) hw83
            try clear hw83
            have hw85 := St.del (.tail .head) hw84
            try clear hw84
            have hw86 := St.del (.tail .head) hw85
            try clear hw85
            have hw87 := St.del (.tail .head) hw86
            try clear hw86
            refine v_lit hw87 rfl rfl Try.underlying66 ti22 rfl (.cons rfl (by first | rfl | assumption) .nil) rfl rfl rfl (fun b23_2 w88 hw88 => ?_)
            try clear hw87
            refine v_push hw88 rfl rfl Try.underlying66 ti22 rfl rfl rfl rfl (by first | (simp [Value.oneCell']; done) | (intro u hu; rw [List.mem_singleton.1 hu]; assumption)) (by first | (simp; done) | (simp; omega)) (by first | (simp; done) | (simp; omega)) (fun v23_3 w89 hw89 => ?_)
            try clear hw88
            have hUw : Rg 0 18446744073709551615 (lw ++ [0]) := fun x hx => (List.mem_append.1 hx).elim (cnU hcw x) (fun h => by have e : x = 0 := (by simpa using h); omega)
            have hi2 : ints .u64 (lw ++ [0]) = ints .u64 lw ++ [.int .u64 0] := by simp [ints]
            have hw90 := hw89.cast (σ' := [As.ro 22 v23_3 (ints .u64 (lw ++ [0]))]) (by rw [hi2])
            try clear hw89
            refine v_getr (j := 0) rfl rfl rfl rfl Try.underlying66 tz22 Try.underlying22 rfl rfl (by first | exact hw90.io mem0 | assumption) (by assumption) rfl (by omega) (by first | omega | (simp; done) | (simp; omega)) (fun hb23_4 => ?_)
            refine l_move rfl rfl rfl ?_
            have hm23 : (lw ++ [0]).getD 0 0 = pickM d (b % d.S) (fX d (b % d.S)) (fY d (b % d.S)) e := by
              have h0 := limb_of hUw 0
              rw [Int.pow_zero, Int.ediv_one] at h0
              have ev : nv (lw ++ [0]) = pickM d (b % d.S) (fX d (b % d.S)) (fY d (b % d.S)) e := by
                show Ma.vb _ _ = _
                rw [Ma.vb_append]
                simp [Ma.vb]
                rw [hpk]
                exact hcw.val
              rw [h0, ev]
              omega
            refine l_turn (s := 124) (v' := .int .u64 (pickM d (b % d.S) (fX d (b % d.S)) (fY d (b % d.S)) e)) rfl (congrArg (Value.int .u64) hm23) ?_
            refine l_call rfl rfl Try.func42 rfl rfl (.cons rfl (.cons rfl .nil)) (shorter10 (pickM d (b % d.S) (fX d (b % d.S)) (fY d (b % d.S)) e) e ⟨hpp, hpb⟩ (by omega) w89) ?_
            rintro _ _ ⟨⟨m, e2, rfl, hst⟩, rfl⟩
            refine l_extract rfl rfl rfl rfl ?_
            refine l_extract rfl rfl rfl rfl ?_
            refine l_extract rfl rfl rfl rfl ?_
            refine l_assign rfl rfl rfl ?_
            refine l_assign rfl rfl rfl ?_
            refine l_assign rfl rfl rfl ?_
            refine l_nil ?_
            refine e_then ?_
            refine c_keep [4, 5, 6] (.cons rfl (.cons rfl (.cons rfl .nil))) ?_
            refine c_ret ?_
            refine e_blk_ret ?_
            refine e_then_ret ?_
            refine e_then_ret ?_
            refine e_blk_ret ?_
            refine e_then_ret ?_
            refine e_doneN Try.results15 (.tmp rfl (.tmp rfl (.tmp rfl .nil))) rfl ?_
            refine ⟨_, rfl, ?_⟩
            have hw91 := St.del .head hw90
            try clear hw90
            exact ⟨_, _, _, rfl, ⟨by omega, fun h => absurd rfl h, fun _ => ⟨d, hk, hltS, hlo, hhi, ⟨t, e, ⟨ht, by omega, fun g h1 h2 => hno g (by omega) h2, hhit⟩, hst⟩⟩⟩, hw91.grows⟩
    · skip
      exact absurd hc1 (by omega)
theorem Count10 (k b : Int) (hb : 0 ≤ b ∧ b ≤ 18446744073709551615) (w : World) :
    CallsV P 28 [.int .i64 k, .int .u64 b] w fun r w' => ∃ m e er, r = .tuple #[.int .i64 (if er = 0 then ((dtx m).length : Int) else 0), .int .i64 er] ∧ DigE k b m e er ∧ Grow w w' [] := by
  refine enterW Try.func28 rfl Try.ntmps28 rfl ?_
  have hw0 := St.start w
  refine c_seq ?_
  refine c_region ?_
  refine l_assign rfl rfl rfl ?_
  refine l_assign rfl rfl rfl ?_
  refine l_nil ?_
  refine e_then ?_
  refine c_keep [0, 1] (.cons rfl (.cons rfl .nil)) ?_
  refine c_seq ?_
  refine c_region ?_
  refine l_move rfl rfl rfl ?_
  refine l_move rfl rfl rfl ?_
  refine l_call rfl rfl Try.func15 rfl rfl (.cons rfl (.cons rfl .nil)) (Digits10 k b hb w) ?_
  rintro _ w1 ⟨m, e, er, rfl, hE, hG⟩
  have hw1 := hG _ _ _ _ hw0
  try clear hG hw0
  simp only [List.cons_append, List.nil_append] at hw1
  have hbdE := hE.bd
  have hdl : dl m ≤ 100 := by
    have := dl_le (m := m) (n := 19) (by omega) (by rw [show (10 : Int) ^ 19 = 10000000000000000000 by decide]; omega)
    omega
  refine l_move rfl rfl rfl ?_
  refine l_extract rfl rfl rfl rfl ?_
  refine l_extract rfl rfl rfl rfl ?_
  refine l_extract rfl rfl rfl rfl ?_
  refine l_assign rfl rfl rfl ?_
  refine l_assign rfl rfl rfl ?_
  refine l_assign rfl rfl rfl ?_
  refine l_nil ?_
  refine e_then ?_
  refine c_keep [6, 8] (.cons rfl (.cons rfl .nil)) ?_
  refine c_seq ?_
  refine c_region ?_
  refine l_assign rfl rfl rfl ?_
  refine l_nil ?_
  refine e_then ?_
  refine c_seq ?_
  refine c_block ?_
  refine c_loopk (ι := Nat × Int) (fun (z0 : Nat × Int) => match z0 with | ⟨n, z⟩ => z.toNat) (fun (z0 : Nat × Int) (w' : World) => match z0 with | ⟨n, z⟩ => St w w.heap.size None' ([]) w' ∧ n + dl z = dl m ∧ 0 ≤ z ∧ z ≤ 1000000000000000000) (fun (z0 : Nat × Int) => match z0 with | ⟨n, z⟩ => [(6, .int .u64 z), (9, .int .i64 (n : Int))]) [8] (0, m) ?_ (.cons rfl .nil) ?_ ?_
  · exact ⟨hw1, by omega, by omega, by omega⟩
  · exact (.cons rfl (by first | rfl | (refine congrArg (Value.int _) ?_; omega)) (.cons rfl (by first | rfl | (refine congrArg (Value.int _) ?_; omega)) .nil))
  rintro ⟨n, z⟩ w2 ⟨hw2, hn, hz0, hz1⟩
  show RunC P _ _ _ (_ :: _) _
  refine c_seq ?_
  refine c_seq ?_
  refine c_region ?_
  refine l_move rfl rfl rfl ?_
  refine l_gtr rfl rfl rfl rfl ?_
  refine l_nil ?_
  refine e_then ?_
  refine c_keep [6, 8, 9, 18] (.cons rfl (.cons rfl (.cons rfl (.cons rfl .nil)))) ?_
  first | refine c_cond rfl (fun hc0 => ?_) (fun hc0 => ?_) | refine c_condb rfl (fun hc0 => ?_) (fun hc0 => ?_)
  · skip
    refine c_skip ?_
    refine e_then ?_
    refine c_keep [6, 8, 9] (.cons rfl (.cons rfl (.cons rfl .nil))) ?_
    refine c_block ?_
    refine c_seq ?_
    refine c_region ?_
    refine l_move rfl rfl rfl ?_
    refine l_add rfl rfl rfl rfl (w_i64 (by omega)) ?_
    refine l_assign rfl rfl rfl ?_
    refine l_nil ?_
    refine e_then ?_
    refine c_keep [6, 8, 9] (.cons rfl (.cons rfl (.cons rfl .nil))) ?_
    refine c_region ?_
    refine l_move rfl rfl rfl ?_
    refine l_quo rfl rfl rfl rfl (by omega) (q_u64 (by omega)) ?_
    refine l_assign rfl rfl rfl ?_
    refine l_nil ?_
    refine e_blk ?_
    refine e_againk (i := (n, z)) (n + 1, z / 10) ?_ ?_ (.cons rfl .nil) ?_
    · first | omega | (simp; omega)
    · have hdz := dl_pos (m := z) (by omega)
      exact ⟨hw2, by omega, by omega, by omega⟩
    · exact (.cons rfl (by first | rfl | (refine congrArg (Value.int _) ?_; omega)) (.cons rfl (by first | rfl | (refine congrArg (Value.int _) ?_; omega)) .nil))
  · skip
    refine c_exit ?_
    refine e_then_exit ?_
    refine e_then_exit ?_
    refine e_blk_exit ?_
    refine e_then ?_
    refine c_keep [8, 9] (.cons rfl (.cons rfl .nil)) ?_
    refine c_seq ?_
    refine c_region ?_
    refine l_move rfl rfl rfl ?_
    refine l_move rfl rfl rfl ?_
    refine l_assign rfl rfl rfl ?_
    refine l_assign rfl rfl rfl ?_
    refine l_nil ?_
    refine e_then ?_
    refine c_keep [4, 5] (.cons rfl (.cons rfl .nil)) ?_
    refine c_ret ?_
    refine e_done2 Try.results28 rfl rfl ?_
    refine ⟨_, rfl, ?_⟩
    refine ⟨m, e, er, ?_, hE, hw2.grows⟩
    obtain rfl : z = 0 := by omega
    rw [dl_zero] at hn
    by_cases h0 : er = 0
    · rw [if_pos h0, dl_dtx (hbdE.2.2.2.2 h0), ← hn]
      all_goals rfl
    · have := hE.2.1 h0
      rw [if_neg h0, show n = 0 by rw [this.1, dl_zero] at hn; omega]
      all_goals rfl
end Go.Proofs.Ytmcbdgpcbcldjaa.W
