/- walks of the document's print: number, Shortest, first, Exponent -/
import Derived.Test.YtojjlipcjdaejaaGreatDoorPh
import Derived.Test.YtojjlipcjdaejaaGreatDoorPm
set_option linter.unusedVariables false
set_option linter.unusedSimpArgs false
set_option maxRecDepth 10000
namespace Go.Proofs.YtojjlipcjdaejaaGreatDoor.W
open Go.Vc Go.RowKit
theorem number11a (n : Int) (hn : 0 ≤ n ∧ n ≤ 1000) (w : World) :
  CallsV P 30 [.int .i64 n] w fun r w' => r = str (dtx n) ∧ Grow w w' [] := by
 refine enterW Tryz.func30 rfl Tryz.ntmps30 rfl ?_
 have hw0 := St.start w
 refine c_seq (c_region (l_assign rfl rfl rfl (l_nil (e_then ?_))))
 refine c_keep [0] (.cons rfl .nil) ?_
 refine c_seq (c_seq (c_region (l_move rfl rfl rfl ?_)))
 refine l_lss rfl rfl rfl rfl ?_
 refine l_nil (e_then ?_)
 refine c_keep [0, 4] (.cons rfl (.cons rfl .nil)) ?_
 first | refine c_cond rfl (fun hc0 => ?_) (fun hc0 => ?_) | refine c_condb rfl (fun hc0 => ?_) (fun hc0 => ?_)
 ·skip
  exact absurd hc0 (by omega)
 ·skip
  refine c_skip (e_then ?_)
  refine c_keep [0] (.cons rfl .nil) ?_
  refine c_seq (c_region (l_move rfl rfl rfl ?_))
  refine l_conv rfl rfl Tryz.underlying3 Tryz.underlying22 rfl (w_u64 (by omega)) ?_
  refine v_lit hw0 rfl rfl Tryz.underlying83 ti22 rfl (.cons rfl (by first | rfl | assumption) .nil) rfl rfl rfl (fun b3_2 w1 hw1 => ?_)
  try clear hw0
  refine l_call rfl rfl Tryz.func29 rfl rfl (.cons rfl .nil) (numR _ [n] (U.one (by omega)) (by simp) w1 (hw1.ibl mem0)) ?_
  rintro vm w2 ⟨_, lm, rfl, hRm, hG⟩
  have hw2 := hG _ _ _ _ hw1
  try clear hG hw1
  simp only [List.cons_append, List.nil_append] at hw2
  have hRm2 : R16 lm (n) := by have := hRm; rw [show Ma.vb 18446744073709551616 [n] = n from nv_one _] at this; exact this
  have hlm := R16.len_num (U.one (x := n) (by omega)) hRm
  simp only [List.length_cons, List.length_nil] at hlm
  refine l_call rfl rfl Tryz.func28 rfl rfl (.cons rfl .nil) (digitsR vm lm (n) hRm2 (by omega) w2 (hw2.io mem0)) ?_
  rintro _ w3 ⟨rfl, hG⟩
  have hw3 := hG _ _ _ _ hw2
  try clear hG hw2
  simp only [List.cons_append, List.nil_append] at hw3
  refine l_assign rfl rfl rfl (l_nil (e_then ?_))
  refine c_keep [2] (.cons rfl .nil) ?_
  refine c_ret ?_
  refine e_done1 Tryz.results30 rfl ?_
  refine ⟨_, rfl, ?_⟩
  have hw4 := St.del (.tail .head) hw3
  try clear hw3
  have hw5 := St.del .head hw4
  try clear hw4
  exact ⟨rfl, hw5.grows⟩
theorem number11 (n : Int) (hn : -1000 ≤ n ∧ n ≤ 1000) (w : World) :
  CallsV P 30 [.int .i64 n] w fun r w' => r = str (itoaT n) ∧ Grow w w' [] := by
 refine enterW Tryz.func30 rfl Tryz.ntmps30 rfl ?_
 have hw0 := St.start w
 refine c_seq (c_region (l_assign rfl rfl rfl (l_nil (e_then ?_))))
 refine c_keep [0] (.cons rfl .nil) ?_
 refine c_seq (c_seq (c_region (l_move rfl rfl rfl ?_)))
 refine l_lss rfl rfl rfl rfl ?_
 refine l_nil (e_then ?_)
 refine c_keep [0, 4] (.cons rfl (.cons rfl .nil)) ?_
 first | refine c_cond rfl (fun hc0 => ?_) (fun hc0 => ?_) | refine c_condb rfl (fun hc0 => ?_) (fun hc0 => ?_)
 ·skip
  refine c_seq (c_region (l_move rfl rfl rfl ?_))
  refine l_neg rfl rfl rfl (w_i64 (by omega)) ?_
  refine l_call rfl rfl Tryz.func30 rfl rfl (.cons rfl .nil) (number11a (0 - n) (by omega) w) ?_
  rintro _ w1 ⟨rfl, hG⟩
  have hw1 := hG _ _ _ _ hw0
  try clear hG hw0
  simp only [List.cons_append, List.nil_append] at hw1
  have hdl := dtx_le (x := 0 - n) (by omega)
  refine l_adds rfl rfl rfl rfl (by first | omega | (simp only [List.length_append, List.length_cons, List.length_nil] at *; omega)) ?_
  refine l_assign rfl rfl rfl (l_nil (e_then ?_))
  refine c_keep [2] (.cons rfl .nil) ?_
  refine c_ret ?_
  refine e_then_ret ?_
  refine e_done1 Tryz.results30 rfl ?_
  refine ⟨_, rfl, ?_⟩
  refine ⟨?_, hw1.grows⟩
  unfold itoaT
  rw [if_pos hc0, show -n = 0 - n by omega]
  all_goals rfl
 ·skip
  refine c_skip (e_then ?_)
  refine c_keep [0] (.cons rfl .nil) ?_
  refine c_seq (c_region (l_move rfl rfl rfl ?_))
  refine l_conv rfl rfl Tryz.underlying3 Tryz.underlying22 rfl (w_u64 (by omega)) ?_
  refine v_lit hw0 rfl rfl Tryz.underlying83 ti22 rfl (.cons rfl (by first | rfl | assumption) .nil) rfl rfl rfl (fun b3_2 w2 hw2 => ?_)
  try clear hw0
  refine l_call rfl rfl Tryz.func29 rfl rfl (.cons rfl .nil) (numR _ [n] (U.one (by omega)) (by simp) w2 (hw2.ibl mem0)) ?_
  rintro vm w3 ⟨_, lm, rfl, hRm, hG⟩
  have hw3 := hG _ _ _ _ hw2
  try clear hG hw2
  simp only [List.cons_append, List.nil_append] at hw3
  have hRm2 : R16 lm (n) := by have := hRm; rw [show Ma.vb 18446744073709551616 [n] = n from nv_one _] at this; exact this
  have hlm := R16.len_num (U.one (x := n) (by omega)) hRm
  simp only [List.length_cons, List.length_nil] at hlm
  refine l_call rfl rfl Tryz.func28 rfl rfl (.cons rfl .nil) (digitsR vm lm (n) hRm2 (by omega) w3 (hw3.io mem0)) ?_
  rintro _ w4 ⟨rfl, hG⟩
  have hw4 := hG _ _ _ _ hw3
  try clear hG hw3
  simp only [List.cons_append, List.nil_append] at hw4
  refine l_assign rfl rfl rfl (l_nil (e_then ?_))
  refine c_keep [2] (.cons rfl .nil) ?_
  refine c_ret ?_
  refine e_done1 Tryz.results30 rfl ?_
  refine ⟨_, rfl, ?_⟩
  have hw5 := St.del (.tail .head) hw4
  try clear hw4
  have hw6 := St.del .head hw5
  try clear hw5
  refine ⟨?_, hw6.grows⟩
  unfold itoaT
  rw [if_neg hc0]
  all_goals rfl
theorem Shortest11 (k b : Int) (hb : 0 ≤ b ∧ b ≤ 18446744073709551615) (w : World) :
  CallsV P 8 [.int .i64 k, .int .u64 b] w fun r w' => ∃ v e t, r = .tuple #[v, .int .i64 e] ∧ ShT k b e t ∧ Grow w w' [As.iv v (bys t)] := by
 refine enterW Tryz.func8 rfl Tryz.ntmps8 rfl ?_
 have hw0 := St.start w
 have hcc := clsF_chk k b hb
 refine c_seq (c_region (l_assign rfl rfl rfl (l_assign rfl rfl rfl (l_nil (e_then ?_)))))
 refine c_keep [0, 1] (.cons rfl (.cons rfl .nil)) ?_
 refine c_seq (c_seq (c_region (l_move rfl rfl rfl (l_move rfl rfl rfl ?_))))
 refine l_callp rfl rfl Tryz.func25 rfl rfl (.cons rfl (.cons rfl .nil)) (check3 k b hb w) ?_
 refine l_assign rfl rfl rfl (l_nil (e_then ?_))
 refine c_keep [0, 1, 6] (.cons rfl (.cons rfl (.cons rfl .nil))) ?_
 refine c_seq (c_region (l_move rfl rfl rfl ?_))
 refine l_neq rfl rfl rfl rfl ?_
 refine l_nil (e_then ?_)
 refine c_keep [0, 1, 6, 19] (.cons rfl (.cons rfl (.cons rfl (.cons rfl .nil)))) ?_
 first | refine c_cond rfl (fun hc0 => ?_) (fun hc0 => ?_) | refine c_condb rfl (fun hc0 => ?_) (fun hc0 => ?_)
 ·skip
  refine c_seq (c_region (l_move rfl rfl rfl (l_assign rfl rfl rfl (l_assign rfl rfl rfl (l_nil ?_)))))
  refine e_then ?_
  refine c_keep [4, 5] (.cons rfl (.cons rfl .nil)) ?_
  refine c_ret ?_
  refine e_then_ret ?_
  refine e_done2 Tryz.results8 rfl rfl ?_
  refine ⟨_, rfl, ?_⟩
  exact ⟨_, _, [], rfl, ⟨by omega, fun _ => rfl, fun h => absurd h hc0⟩, (St.ro_iv (hw0.nil 5)).grows⟩
 ·skip
  have hc02 : (clsF k b).2 = 0 := by omega
  obtain ⟨d, hk, hltS, hcl⟩ := clsF_ok hb hc02
  have hbd := d.bd
  have hb2 : 0 ≤ b ∧ b < 2 * d.S := ⟨hb.1, hltS⟩
  have hms := mod_S d hb2
  refine c_skip (e_then ?_)
  refine c_keep [0, 1] (.cons rfl (.cons rfl .nil)) ?_
  refine c_seq (c_region (l_move rfl rfl rfl (l_move rfl rfl rfl ?_)))
  refine l_call rfl rfl Tryz.func26 rfl rfl (.cons rfl (.cons rfl .nil)) (word11 k d hk b hb2 w) ?_
  rintro _ w1 ⟨rfl, hG⟩
  have hw1 := hG _ _ _ _ hw0
  try clear hG hw0
  simp only [List.cons_append, List.nil_append] at hw1
  obtain ⟨W, hW⟩ : ∃ W : List UInt8, W = (if d.I < b % d.S then [110, 97, 110] else if b % d.S = d.I then [105, 110, 102] else []) := ⟨_, rfl⟩
  obtain ⟨G, hGs⟩ : ∃ G : List UInt8, G = (if d.I < b % d.S then [] else sgT d b) := ⟨_, rfl⟩
  rw [← hW, ← hGs]
  have hWl : W.length ≤ 3 := by rw [hW]; (repeat' split) <;> (first | decide | simp)
  have hGl : G.length ≤ 1 := by rw [hGs]; unfold sgT; (repeat' split) <;> (first | decide | simp)
  refine l_move rfl rfl rfl (l_extract rfl rfl rfl rfl (l_extract rfl rfl rfl rfl (l_assign rfl rfl rfl (l_assign rfl rfl rfl (l_nil ?_)))))
  refine e_then ?_
  refine c_keep [0, 1, 7, 8] (.cons rfl (.cons rfl (.cons rfl (.cons rfl .nil)))) ?_
  refine c_seq (c_seq (c_region (l_move rfl rfl rfl ?_)))
  refine l_neqs rfl rfl rfl rfl ?_
  refine l_nil (e_then ?_)
  refine c_keep [0, 1, 7, 8, 28] (.cons rfl (.cons rfl (.cons rfl (.cons rfl (.cons rfl .nil))))) ?_
  first | refine c_cond rfl (fun hc1 => ?_) (fun hc1 => ?_) | refine c_condb rfl (fun hc1 => ?_) (fun hc1 => ?_)
  ·skip
   refine c_seq (c_region (l_move rfl rfl rfl (l_move rfl rfl rfl ?_)))
   refine l_adds rfl rfl rfl rfl (by first | omega | (simp only [List.length_append, List.length_cons, List.length_nil] at *; omega)) ?_
   refine v_tobytes hw1 rfl rfl Tryz.underlying9 Tryz.underlying24 Tryz.underlying5 rfl (fun v6_3 w2 hw2 => ?_)
   try clear hw1
   refine l_assign rfl rfl rfl (l_assign rfl rfl rfl (l_nil (e_then ?_)))
   refine c_keep [4, 5] (.cons rfl (.cons rfl .nil)) ?_
   refine c_ret ?_
   refine e_then_ret ?_
   refine e_done2 Tryz.results8 rfl rfl ?_
   refine ⟨_, rfl, ?_⟩
   have hov : d.I ≤ b % d.S ∧ ∀ x, G ++ W = wdT d b x := by
    rw [hGs, hW]
    unfold wdT
    rw [hW] at hc1
    split
    ·exact ⟨by omega, fun _ => rfl⟩
    ·rename_i h1
     rw [if_neg h1] at hc1
     split
     ·exact ⟨by omega, fun _ => rfl⟩
     ·rename_i h2
      rw [if_neg h2] at hc1
      exact absurd rfl hc1
   exact ⟨_, 0, _, rfl, ⟨hc02.symm, fun h => absurd rfl h, fun _ => ⟨d, (if b % d.S = 0 then [48] else []), hk, hltS, hov.2 _, fun h => if_pos h, fun h1 h2 => absurd h2 (by omega)⟩⟩, hw2.grows⟩
  ·skip
   have hWn : W = [] := Classical.not_not.1 hc1
   have hfin : b % d.S < d.I := by
    rcases Int.lt_or_le (b % d.S) d.I with h | h
    ·exact h
    ·exfalso
     rw [hWn] at hW
     split at hW
     ·cases hW
     ·rw [if_pos (by omega)] at hW; cases hW
   have hGd : G = sgT d b := by rw [hGs, if_neg (by omega)]
   refine c_skip (e_then ?_)
   refine c_keep [0, 1, 8] (.cons rfl (.cons rfl (.cons rfl .nil))) ?_
   refine c_seq (c_region (l_move rfl rfl rfl (l_move rfl rfl rfl ?_)))
   refine l_call rfl rfl Tryz.func27 rfl rfl (.cons rfl (.cons rfl .nil)) (Digits10 k b hb w1) ?_
   rintro _ w3 ⟨m, x, er, rfl, hE, hG⟩
   have hw3 := hG _ _ _ _ hw1
   try clear hG hw1
   simp only [List.cons_append, List.nil_append] at hw3
   refine l_move rfl rfl rfl (l_extract rfl rfl rfl rfl (l_extract rfl rfl rfl rfl (l_extract rfl rfl rfl rfl (l_assign rfl rfl rfl (l_assign rfl rfl rfl ?_)))))
   refine l_assign rfl rfl rfl (l_nil (e_then ?_))
   refine c_keep [8, 9, 10, 11] (.cons rfl (.cons rfl (.cons rfl (.cons rfl .nil)))) ?_
   refine c_seq (c_seq (c_region (l_move rfl rfl rfl ?_)))
   refine l_neq rfl rfl rfl rfl ?_
   refine l_nil (e_then ?_)
   refine c_keep [8, 9, 10, 41] (.cons rfl (.cons rfl (.cons rfl (.cons rfl .nil)))) ?_
   first | refine c_cond rfl (fun hc2 => ?_) (fun hc2 => ?_) | refine c_condb rfl (fun hc2 => ?_) (fun hc2 => ?_)
   ·skip
    refine c_seq (c_region (l_move rfl rfl rfl ?_))
    refine l_adds rfl rfl rfl rfl (by first | omega | (simp only [List.length_append, List.length_cons, List.length_nil] at *; omega)) ?_
    refine v_tobytes hw3 rfl rfl Tryz.underlying9 Tryz.underlying24 Tryz.underlying5 rfl (fun v9_2 w4 hw4 => ?_)
    try clear hw3
    refine l_assign rfl rfl rfl (l_assign rfl rfl rfl (l_nil (e_then ?_)))
    refine c_keep [4, 5] (.cons rfl (.cons rfl .nil)) ?_
    refine c_ret ?_
    refine e_then_ret ?_
    refine e_done2 Tryz.results8 rfl rfl ?_
    refine ⟨_, rfl, ?_⟩
    have hz0 : ¬ 0 < b % d.S := fun h => hc2 (hE.1.trans (ofE_is hk hltS ⟨h, hfin⟩))
    exact ⟨_, 0, _, rfl, ⟨hc02.symm, fun h => absurd rfl h, fun _ => ⟨d, [48], hk, hltS, by rw [wdT_fin hfin, hGd], fun h => rfl, fun h1 h2 => absurd h1 hz0⟩⟩, hw4.grows⟩
   ·skip
    obtain rfl : er = 0 := by omega
    obtain ⟨d', hd', _, hpos, _, hDig⟩ := hE.2.2 rfl
    rw [hk] at hd'
    cases hd'
    have hbdE := hDig.bd ⟨hpos, hfin⟩
    have hml := dtx_le (x := m) (by omega)
    have hml1 := dtx_pos (z := m) (by omega)
    refine c_skip (e_then ?_)
    refine c_keep [8, 9, 10] (.cons rfl (.cons rfl (.cons rfl .nil))) ?_
    refine c_seq (c_region (l_move rfl rfl rfl ?_))
    refine v_lit hw3 rfl rfl Tryz.underlying83 ti22 rfl (.cons rfl (by first | rfl | assumption) .nil) rfl rfl rfl (fun b10_1 w5 hw5 => ?_)
    try clear hw3
    refine l_call rfl rfl Tryz.func29 rfl rfl (.cons rfl .nil) (numR _ [m] (U.one (by omega)) (by simp) w5 (hw5.ibl mem0)) ?_
    rintro vm w6 ⟨_, lm, rfl, hRm, hG⟩
    have hw6 := hG _ _ _ _ hw5
    try clear hG hw5
    simp only [List.cons_append, List.nil_append] at hw6
    have hRm2 : R16 lm (m) := by have := hRm; rw [show Ma.vb 18446744073709551616 [m] = m from nv_one _] at this; exact this
    have hlm := R16.len_num (U.one (x := m) (by omega)) hRm
    simp only [List.length_cons, List.length_nil] at hlm
    refine l_call rfl rfl Tryz.func28 rfl rfl (.cons rfl .nil) (digitsR vm lm (m) hRm2 (by omega) w6 (hw6.io mem0)) ?_
    rintro _ w7 ⟨rfl, hG⟩
    have hw7 := hG _ _ _ _ hw6
    try clear hG hw6
    simp only [List.cons_append, List.nil_append] at hw7
    refine l_assign rfl rfl rfl (l_nil (e_then ?_))
    refine c_keep [8, 10, 12] (.cons rfl (.cons rfl (.cons rfl .nil))) ?_
    refine c_seq (c_region (l_move rfl rfl rfl ?_))
    refine l_lenstr rfl rfl Tryz.underlying9 rfl ?_
    refine l_move rfl rfl rfl ?_
    refine l_add rfl rfl rfl rfl (w_i64 (by omega)) ?_
    refine l_assign rfl rfl rfl (l_nil (e_then ?_))
    refine c_keep [8, 12, 13] (.cons rfl (.cons rfl (.cons rfl .nil))) ?_
    refine c_cutk (ι := List UInt8) (fun (s2 : List UInt8) (w' : World) => St w w.heap.size None' ([]) w' ∧ s2 = shT m x ∧ s2.length ≤ 1000) (fun (s2 : List UInt8) => [(12, str s2)]) [8] (.cons rfl .nil) ?_ ?_
    ·skip
     refine c_block (c_seq (c_region (l_move rfl rfl rfl ?_)))
     refine l_lss rfl rfl rfl rfl ?_
     refine l_move rfl rfl rfl ?_
     apply l_or 2 [8, 12, 13] rfl rfl (.cons rfl (.cons rfl (.cons rfl (.cons rfl .nil)))) rfl rfl (fun _ => rfl) rfl rfl rfl
     ·intro hg13_3
      refine l_move rfl rfl rfl ?_
      refine l_gtr rfl rfl rfl rfl ?_
      refine l_nil ?_
      exact e_stays rfl (.cons rfl (congrArg Value.bool (decide_eq_false hg13_3).symm) (.cons rfl rfl (.cons rfl rfl (.cons rfl rfl .nil))))
     refine l_assign rfl rfl rfl (l_nil (e_then ?_))
     refine c_keep [8, 12, 13, 60] (.cons rfl (.cons rfl (.cons rfl (.cons rfl .nil)))) ?_
     first | refine c_cond rfl (fun hc3 => ?_) (fun hc3 => ?_) | refine c_condb rfl (fun hc3 => ?_) (fun hc3 => ?_)
     ·skip
      have hd5 : (List.drop 1 (List.take (dtx m).length (dtx m))).length ≤ 30 := by simp; omega
      have hd6 : (List.drop 0 (List.take 1 (dtx m))).length ≤ 30 := by simp; omega
      have hil := itoaT_len (n := (((dtx m).length : Int) + x) - 1) (by omega)
      refine c_seq (c_region (l_assign rfl rfl rfl (l_nil (e_then ?_))))
      refine c_keep [8, 12, 13, 14] (.cons rfl (.cons rfl (.cons rfl (.cons rfl .nil)))) ?_
      refine c_seq (c_seq (c_region (l_move rfl rfl rfl ?_)))
      refine l_lenstr rfl rfl Tryz.underlying9 rfl ?_
      refine l_gtr rfl rfl rfl rfl ?_
      refine l_nil (e_then ?_)
      refine c_keep [8, 12, 13, 14, 69] (.cons rfl (.cons rfl (.cons rfl (.cons rfl (.cons rfl .nil))))) ?_
      first | refine c_cond rfl (fun hc4 => ?_) (fun hc4 => ?_) | refine c_condb rfl (fun hc4 => ?_) (fun hc4 => ?_)
      ·skip
       refine c_region (l_move rfl rfl rfl ?_)
       refine l_slices (l := 1) (h := (dtx m).length) rfl rfl Tryz.underlying9 rfl rfl rfl (by first | rfl | (simp; done) | (simp; omega)) (by first | rfl | (simp; done) | (simp; omega)) (by omega) (by first | omega | (simp; omega) | (simp; done)) ?_
       refine l_adds rfl rfl rfl rfl (by first | omega | (simp only [List.length_append, List.length_cons, List.length_nil] at *; omega)) ?_
       refine l_assign rfl rfl rfl (l_nil (e_then ?_))
       refine c_keep [8, 12, 13, 14] (.cons rfl (.cons rfl (.cons rfl (.cons rfl .nil)))) ?_
       have hw8 := hw7.drewn
       try clear hw7
       refine c_any (n := 10) [false, false, false, false, false, false, false, false, false, false] (fun wS => True) (by kernel_rfl) rfl rfl ?_
       apply a_take (L' := [true, false, false, false, false, false, false, false, false, false]) 0 rfl (by kernel_rfl) (by kernel_rfl) (by kernel_rfl) rfl rfl rfl rfl rfl (trivial)
       ·intro wS sS
        refine l_move rfl rfl rfl (l_nil ?_)
        exact e_got rfl
       apply a_take (L' := [true, true, false, false, false, false, false, false, false, false]) 1 rfl (by kernel_rfl) (by kernel_rfl) (by kernel_rfl) rfl rfl rfl rfl rfl (trivial)
       ·intro wS sS
        refine l_slices (l := 0) (h := 1) rfl rfl Tryz.underlying9 rfl rfl rfl (by first | rfl | (simp; done) | (simp; omega)) (by first | rfl | (simp; done) | (simp; omega)) (by omega) (by first | omega | (simp; omega) | (simp; done)) ?_
        refine l_nil ?_
        exact e_got rfl
       apply a_take (L' := [true, true, true, false, false, false, false, false, false, false]) 2 rfl (by kernel_rfl) (by kernel_rfl) (by kernel_rfl) rfl rfl rfl rfl rfl (trivial)
       ·intro wS sS
        refine l_move rfl rfl rfl (l_nil ?_)
        exact e_got rfl
       apply a_take (L' := [true, true, true, true, false, false, false, false, false, false]) 3 rfl (by kernel_rfl) (by kernel_rfl) (by kernel_rfl) rfl rfl rfl rfl rfl (trivial)
       ·intro wS sS
        refine l_adds rfl rfl rfl rfl (by first | omega | (simp only [List.length_append, List.length_cons, List.length_nil] at *; omega)) ?_
        refine l_nil ?_
        exact e_got rfl
       apply a_take (L' := [true, true, true, true, true, false, false, false, false, false]) 4 rfl (by kernel_rfl) (by kernel_rfl) (by kernel_rfl) rfl rfl rfl rfl rfl (trivial)
       ·intro wS sS
        refine l_adds rfl rfl rfl rfl (by first | omega | (simp only [List.length_append, List.length_cons, List.length_nil] at *; omega)) ?_
        refine l_nil ?_
        exact e_got rfl
       apply a_take (L' := [true, true, true, true, true, true, false, false, false, false]) 5 rfl (by kernel_rfl) (by kernel_rfl) (by kernel_rfl) rfl rfl rfl rfl rfl (trivial)
       ·intro wS sS
        refine l_move rfl rfl rfl (l_nil ?_)
        exact e_got rfl
       apply a_take (L' := [true, true, true, true, true, true, true, false, false, false]) 6 rfl (by kernel_rfl) (by kernel_rfl) (by kernel_rfl) rfl rfl rfl rfl rfl (trivial)
       ·intro wS sS
        refine l_sub rfl rfl rfl rfl (w_i64 (by omega)) ?_
        refine l_nil ?_
        exact e_got rfl
       refine a_one (L' := [true, true, true, true, true, true, true, true, false, false]) 7 (by kernel_rfl) rfl rfl ?_
       refine l_call rfl rfl Tryz.func30 rfl rfl (.cons rfl .nil) (number11 ((((dtx m).length : Int) + x) - 1) (by omega) w7.drew) ?_
       rintro _ w9 ⟨rfl, hG⟩
       have hw9 := hG _ _ _ _ hw8
       try clear hG hw8
       simp only [List.cons_append, List.nil_append] at hw9
       refine l_nil ?_
       refine e_any (trivial) ?_
       apply a_take (L' := [true, true, true, true, true, true, true, true, true, false]) 8 rfl (by kernel_rfl) (by kernel_rfl) (by kernel_rfl) rfl rfl rfl rfl rfl (trivial)
       ·intro wS sS
        refine l_adds rfl rfl rfl rfl (by first | omega | (simp only [List.length_append, List.length_cons, List.length_nil] at *; omega)) ?_
        refine l_nil ?_
        exact e_got rfl
       apply a_take (L' := [true, true, true, true, true, true, true, true, true, true]) 9 rfl (by kernel_rfl) (by kernel_rfl) (by kernel_rfl) rfl rfl rfl rfl rfl (trivial)
       ·intro wS sS
        refine l_assign rfl rfl rfl (l_nil ?_)
        exact e_got rfl
       refine a_done (by kernel_rfl) ?_
       refine e_blk ?_
       have hw10 := St.del (.tail .head) hw9
       try clear hw9
       have hw11 := St.del .head hw10
       try clear hw10
       refine e_meetk ((dtx m).take 1 ++ (46 :: (dtx m).drop 1) ++ [101] ++ itoaT ((((dtx m).length : Int) + x) - 1)) ?_ (.cons rfl .nil) ?_
       ·exact ⟨hw11, by unfold shT; rw [if_pos hc3]; unfold ptT exT; rw [show (1 : Int).toNat = 1 from rfl, if_pos (by omega)]; simp, by simp; omega⟩
       ·exact (.cons rfl (by first | rfl | simp) .nil)
      ·skip
       refine c_skip (e_then ?_)
       refine c_keep [8, 12, 13, 14] (.cons rfl (.cons rfl (.cons rfl (.cons rfl .nil)))) ?_
       have hw12 := hw7.drewn
       try clear hw7
       refine c_any (n := 10) [false, false, false, false, false, false, false, false, false, false] (fun wS => True) (by kernel_rfl) rfl rfl ?_
       apply a_take (L' := [true, false, false, false, false, false, false, false, false, false]) 0 rfl (by kernel_rfl) (by kernel_rfl) (by kernel_rfl) rfl rfl rfl rfl rfl (trivial)
       ·intro wS sS
        refine l_move rfl rfl rfl (l_nil ?_)
        exact e_got rfl
       apply a_take (L' := [true, true, false, false, false, false, false, false, false, false]) 1 rfl (by kernel_rfl) (by kernel_rfl) (by kernel_rfl) rfl rfl rfl rfl rfl (trivial)
       ·intro wS sS
        refine l_slices (l := 0) (h := 1) rfl rfl Tryz.underlying9 rfl rfl rfl (by first | rfl | (simp; done) | (simp; omega)) (by first | rfl | (simp; done) | (simp; omega)) (by omega) (by first | omega | (simp; omega) | (simp; done)) ?_
        refine l_nil ?_
        exact e_got rfl
       apply a_take (L' := [true, true, true, false, false, false, false, false, false, false]) 2 rfl (by kernel_rfl) (by kernel_rfl) (by kernel_rfl) rfl rfl rfl rfl rfl (trivial)
       ·intro wS sS
        refine l_move rfl rfl rfl (l_nil ?_)
        exact e_got rfl
       apply a_take (L' := [true, true, true, true, false, false, false, false, false, false]) 3 rfl (by kernel_rfl) (by kernel_rfl) (by kernel_rfl) rfl rfl rfl rfl rfl (trivial)
       ·intro wS sS
        refine l_adds rfl rfl rfl rfl (by first | omega | (simp only [List.length_append, List.length_cons, List.length_nil] at *; omega)) ?_
        refine l_nil ?_
        exact e_got rfl
       apply a_take (L' := [true, true, true, true, true, false, false, false, false, false]) 4 rfl (by kernel_rfl) (by kernel_rfl) (by kernel_rfl) rfl rfl rfl rfl rfl (trivial)
       ·intro wS sS
        refine l_adds rfl rfl rfl rfl (by first | omega | (simp only [List.length_append, List.length_cons, List.length_nil] at *; omega)) ?_
        refine l_nil ?_
        exact e_got rfl
       apply a_take (L' := [true, true, true, true, true, true, false, false, false, false]) 5 rfl (by kernel_rfl) (by kernel_rfl) (by kernel_rfl) rfl rfl rfl rfl rfl (trivial)
       ·intro wS sS
        refine l_move rfl rfl rfl (l_nil ?_)
        exact e_got rfl
       apply a_take (L' := [true, true, true, true, true, true, true, false, false, false]) 6 rfl (by kernel_rfl) (by kernel_rfl) (by kernel_rfl) rfl rfl rfl rfl rfl (trivial)
       ·intro wS sS
        refine l_sub rfl rfl rfl rfl (w_i64 (by omega)) ?_
        refine l_nil ?_
        exact e_got rfl
       refine a_one (L' := [true, true, true, true, true, true, true, true, false, false]) 7 (by kernel_rfl) rfl rfl ?_
       refine l_call rfl rfl Tryz.func30 rfl rfl (.cons rfl .nil) (number11 ((((dtx m).length : Int) + x) - 1) (by omega) w7.drew) ?_
       rintro _ w13 ⟨rfl, hG⟩
       have hw13 := hG _ _ _ _ hw12
       try clear hG hw12
       simp only [List.cons_append, List.nil_append] at hw13
       refine l_nil ?_
       refine e_any (trivial) ?_
       apply a_take (L' := [true, true, true, true, true, true, true, true, true, false]) 8 rfl (by kernel_rfl) (by kernel_rfl) (by kernel_rfl) rfl rfl rfl rfl rfl (trivial)
       ·intro wS sS
        refine l_adds rfl rfl rfl rfl (by first | omega | (simp only [List.length_append, List.length_cons, List.length_nil] at *; omega)) ?_
        refine l_nil ?_
        exact e_got rfl
       apply a_take (L' := [true, true, true, true, true, true, true, true, true, true]) 9 rfl (by kernel_rfl) (by kernel_rfl) (by kernel_rfl) rfl rfl rfl rfl rfl (trivial)
       ·intro wS sS
        refine l_assign rfl rfl rfl (l_nil ?_)
        exact e_got rfl
       refine a_done (by kernel_rfl) ?_
       refine e_blk ?_
       have hw14 := St.del (.tail .head) hw13
       try clear hw13
       have hw15 := St.del .head hw14
       try clear hw14
       refine e_meetk ((dtx m).take 1 ++ [] ++ [101] ++ itoaT ((((dtx m).length : Int) + x) - 1)) ?_ (.cons rfl .nil) ?_
       ·exact ⟨hw15, by unfold shT; rw [if_pos hc3]; unfold ptT exT; rw [show (1 : Int).toNat = 1 from rfl, if_neg (by omega)]; simp, by simp; omega⟩
       ·exact (.cons rfl (by first | rfl | simp) .nil)
     ·skip
      refine c_seq (c_region (l_move rfl rfl rfl ?_))
      refine l_lss rfl rfl rfl rfl ?_
      refine l_assign rfl rfl rfl (l_nil (e_then ?_))
      refine c_keep [8, 12, 13, 82] (.cons rfl (.cons rfl (.cons rfl (.cons rfl .nil)))) ?_
      first | refine c_cond rfl (fun hc5 => ?_) (fun hc5 => ?_) | refine c_condb rfl (fun hc5 => ?_) (fun hc5 => ?_)
      ·skip
       refine c_region (l_move rfl rfl rfl ?_)
       refine l_neg rfl rfl rfl (w_i64 (by omega)) ?_
       refine l_callp rfl rfl Tryz.func31 rfl rfl (.cons rfl .nil) (noughts11 (0 - (((dtx m).length : Int) + x)) (by omega) w7) ?_
       have hzl : (zsT (0 - (((dtx m).length : Int) + x))).length = (0 - (((dtx m).length : Int) + x)).toNat := by unfold zsT; rw [List.length_replicate]
       refine l_adds rfl rfl rfl rfl (by first | omega | (simp only [List.length_append, List.length_cons, List.length_nil] at *; omega)) ?_
       refine l_move rfl rfl rfl ?_
       refine l_adds rfl rfl rfl rfl (by first | omega | (simp only [List.length_append, List.length_cons, List.length_nil] at *; omega)) ?_
       refine l_assign rfl rfl rfl (l_nil ?_)
       refine e_blk ?_
       have hw16 := St.del (.tail .head) hw7
       try clear hw7
       have hw17 := St.del .head hw16
       try clear hw16
       refine e_meetk ([48, 46] ++ zsT (0 - (((dtx m).length : Int) + x)) ++ dtx m) ?_ (.cons rfl .nil) ?_
       ·exact ⟨hw17, by unfold shT; rw [if_neg hc3, if_pos (by omega), Int.zero_sub], by simp only [List.length_append, List.length_cons, List.length_nil]; omega⟩
       ·exact (.cons rfl (by first | rfl | simp) .nil)
      ·skip
       refine c_seq (c_region (l_move rfl rfl rfl (l_move rfl rfl rfl ?_)))
       refine l_lenstr rfl rfl Tryz.underlying9 rfl ?_
       refine l_lss rfl rfl rfl rfl ?_
       refine l_assign rfl rfl rfl (l_nil (e_then ?_))
       refine c_keep [8, 12, 13, 91] (.cons rfl (.cons rfl (.cons rfl (.cons rfl .nil)))) ?_
       first | refine c_cond rfl (fun hc6 => ?_) (fun hc6 => ?_) | refine c_condb rfl (fun hc6 => ?_) (fun hc6 => ?_)
       ·skip
        refine c_still (by kernel_rfl) (by kernel_rfl) ?_
        have hw18 := hw7.drewn
        try clear hw7
        have hd1 : (List.drop 0 (List.take (((dtx m).length : Int) + x).toNat (dtx m))).length ≤ 1100 := by simp; omega
        have hd2 : (List.drop (((dtx m).length : Int) + x).toNat (List.take (dtx m).length (dtx m))).length ≤ 1100 := by simp; omega
        refine l_move rfl rfl rfl (l_move rfl rfl rfl ?_)
        refine l_slices (l := 0) (h := (((dtx m).length : Int) + x).toNat) rfl rfl Tryz.underlying9 rfl rfl rfl (by first | rfl | (simp; done) | (simp; omega)) (by first | rfl | (simp; done) | (simp; omega)) (by omega) (by first | omega | (simp; omega) | (simp; done)) ?_
        refine l_adds rfl rfl rfl rfl (by first | omega | (simp only [List.length_append, List.length_cons, List.length_nil] at *; omega)) ?_
        refine l_move rfl rfl rfl (l_move rfl rfl rfl ?_)
        refine l_slices (l := (((dtx m).length : Int) + x).toNat) (h := (dtx m).length) rfl rfl Tryz.underlying9 rfl rfl rfl (by first | rfl | (simp; done) | (simp; omega)) (by first | rfl | (simp; done) | (simp; omega)) (by omega) (by first | omega | (simp; omega) | (simp; done)) ?_
        refine l_adds rfl rfl rfl rfl (by first | omega | (simp only [List.length_append, List.length_cons, List.length_nil] at *; omega)) ?_
        refine l_assign rfl rfl rfl (l_nil ?_)
        refine e_blk ?_
        have hw19 := St.del (.tail .head) hw18
        try clear hw18
        have hw20 := St.del .head hw19
        try clear hw19
        refine e_meetk ((dtx m).take (((dtx m).length : Int) + x).toNat ++ [46] ++ (dtx m).drop (((dtx m).length : Int) + x).toNat) ?_ (.cons rfl .nil) ?_
        ·exact ⟨hw20, by unfold shT; rw [if_neg hc3, if_neg (by omega), if_pos (by omega)]; unfold ptT; rw [if_pos (by omega)]; simp, by simp; omega⟩
        ·exact (.cons rfl (by first | rfl | simp) .nil)
       ·skip
        refine c_region (l_move rfl rfl rfl (l_move rfl rfl rfl (l_move rfl rfl rfl ?_)))
        refine l_lenstr rfl rfl Tryz.underlying9 rfl ?_
        refine l_sub rfl rfl rfl rfl (w_i64 (by omega)) ?_
        refine l_callp rfl rfl Tryz.func31 rfl rfl (.cons rfl .nil) (noughts11 ((((dtx m).length : Int) + x) - ((dtx m).length : Int)) (by omega) w7) ?_
        have hzl : (zsT ((((dtx m).length : Int) + x) - ((dtx m).length : Int))).length = ((((dtx m).length : Int) + x) - ((dtx m).length : Int)).toNat := by unfold zsT; rw [List.length_replicate]
        refine l_adds rfl rfl rfl rfl (by first | omega | (simp only [List.length_append, List.length_cons, List.length_nil] at *; omega)) ?_
        refine l_assign rfl rfl rfl (l_nil ?_)
        refine e_blk ?_
        have hw21 := St.del (.tail .head) hw7
        try clear hw7
        have hw22 := St.del .head hw21
        try clear hw21
        refine e_meetk (dtx m ++ zsT ((((dtx m).length : Int) + x) - ((dtx m).length : Int))) ?_ (.cons rfl .nil) ?_
        ·exact ⟨hw22, by unfold shT; rw [if_neg hc3, if_neg (by omega), if_neg (by omega), show (((dtx m).length : Int) + x) - ((dtx m).length : Int) = x by omega], by simp; omega⟩
        ·exact (.cons rfl (by first | rfl | simp) .nil)
    rintro s2 w23 ⟨hw23, hs2, hs3⟩
    show RunC P _ _ _ (_ :: _) _
    refine c_seq (c_region (l_move rfl rfl rfl (l_move rfl rfl rfl ?_)))
    refine l_adds rfl rfl rfl rfl (by first | omega | (simp only [List.length_append, List.length_cons, List.length_nil] at *; omega)) ?_
    refine v_tobytes hw23 rfl rfl Tryz.underlying9 Tryz.underlying24 Tryz.underlying5 rfl (fun v22_3 w24 hw24 => ?_)
    try clear hw23
    refine l_assign rfl rfl rfl (l_assign rfl rfl rfl (l_nil (e_then ?_)))
    refine c_keep [4, 5] (.cons rfl (.cons rfl .nil)) ?_
    refine c_ret ?_
    refine e_done2 Tryz.results8 rfl rfl ?_
    refine ⟨_, rfl, ?_⟩
    exact ⟨_, 0, _, rfl, ⟨hc02.symm, fun h => absurd rfl h, fun _ => ⟨d, shT m x, hk, hltS, by rw [wdT_fin hfin, hGd, hs2], fun h => absurd h (by omega), fun h1 h2 => ⟨m, x, hDig, rfl⟩⟩⟩, hw24.grows⟩
end Go.Proofs.YtojjlipcjdaejaaGreatDoor.W
