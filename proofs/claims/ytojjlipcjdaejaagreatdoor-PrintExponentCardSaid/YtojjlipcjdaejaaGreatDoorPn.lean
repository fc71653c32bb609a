/- walks of the document's print: number, Shortest, first, Exponent -/
import Derived.Test.YtojjlipcjdaejaaGreatDoorPh
import Derived.Test.YtojjlipcjdaejaaGreatDoorPm
set_option linter.unusedVariables false
set_option linter.unusedSimpArgs false
set_option maxRecDepth 10000
namespace Go.Proofs.YtojjlipcjdaejaaGreatDoor.W
open Go.Vc Go.RowKit
theorem number11a (n : Int) (hn : 0 ≤ n ∧ n ≤ 1000) (w : World) :
  CallsV P 30 [.int .i64 n] w fun r w' => r = str (dtx n) ∧ Grow w w' [] := by
 refine enterW Tryz.func30 rfl Tryz.ntmps30 rfl ?_
 have hw0 := St.start w
 refine c_seq (c_region (l_assign rfl rfl rfl (l_nil (e_then ?_))))
 refine c_keep [0] (.cons rfl .nil) ?_
 refine c_seq (c_seq (c_region (l_move rfl rfl rfl ?_)))
 refine l_lss rfl rfl rfl rfl ?_
 refine l_nil (e_then ?_)
 refine c_keep [0, 4] (.cons rfl (.cons rfl .nil)) ?_
 first | refine c_cond rfl (fun hc0 => ?_) (fun hc0 => ?_) | refine c_condb rfl (fun hc0 => ?_) (fun hc0 => ?_)
 ·skip
  exact absurd hc0 (by omega)
 ·skip
  refine c_skip (e_then ?_)
  refine c_keep [0] (.cons rfl .nil) ?_
  refine c_seq (c_region (l_move rfl rfl rfl ?_))
  refine l_conv rfl rfl Tryz.underlying3 Tryz.underlying22 rfl (w_u64 (by omega)) ?_
  refine v_lit hw0 rfl rfl Tryz.underlying83 ti22 rfl (.cons rfl (by first | rfl | assumption) .nil) rfl rfl rfl (fun b3_2 w1 hw1 => ?_)
  try clear hw0
  refine l_call rfl rfl Tryz.func29 rfl rfl (.cons rfl .nil) (numR _ [n] (U.one (by omega)) (by simp) w1 (hw1.ibl mem0)) ?_
  rintro vm w2 ⟨_, lm, rfl, hRm, hG⟩
  have hw2 := hG _ _ _ _ hw1
  try clear hG hw1
  simp only [List.cons_append, List.nil_append] at hw2
  have hRm2 : R16 lm (n) := by have := hRm; rw [show Ma.vb 18446744073709551616 [n] = n from nv_one _] at this; exact this
  have hlm := R16.len_num (U.one (x := n) (by omega)) hRm
  simp only [List.length_cons, List.length_nil] at hlm
  refine l_call rfl rfl Tryz.func28 rfl rfl (.cons rfl .nil) (digitsR vm lm (n) hRm2 (by omega) w2 (hw2.io mem0)) ?_
  rintro _ w3 ⟨rfl, hG⟩
  have hw3 := hG _ _ _ _ hw2
  try clear hG hw2
  simp only [List.cons_append, List.nil_append] at hw3
  refine l_assign rfl rfl rfl (l_nil (e_then ?_))
  refine c_keep [2] (.cons rfl .nil) ?_
  refine c_ret ?_
  refine e_done1 Tryz.results30 rfl ?_
  refine ⟨_, rfl, ?_⟩
  have hw4 := St.del (.tail .head) hw3
  try clear hw3
  have hw5 := St.del .head hw4
  try clear hw4
  exact ⟨rfl, hw5.grows⟩
theorem number11 (n : Int) (hn : -1000 ≤ n ∧ n ≤ 1000) (w : World) :
  CallsV P 30 [.int .i64 n] w fun r w' => r = str (itoaT n) ∧ Grow w w' [] := by
 refine enterW Tryz.func30 rfl Tryz.ntmps30 rfl ?_
 have hw0 := St.start w
 refine c_seq (c_region (l_assign rfl rfl rfl (l_nil (e_then ?_))))
 refine c_keep [0] (.cons rfl .nil) ?_
 refine c_seq (c_seq (c_region (l_move rfl rfl rfl ?_)))
 refine l_lss rfl rfl rfl rfl ?_
 refine l_nil (e_then ?_)
 refine c_keep [0, 4] (.cons rfl (.cons rfl .nil)) ?_
 first | refine c_cond rfl (fun hc0 => ?_) (fun hc0 => ?_) | refine c_condb rfl (fun hc0 => ?_) (fun hc0 => ?_)
 ·skip
  refine c_seq (c_region (l_move rfl rfl rfl ?_))
  refine l_neg rfl rfl rfl (w_i64 (by omega)) ?_
  refine l_call rfl rfl Tryz.func30 rfl rfl (.cons rfl .nil) (number11a (0 - n) (by omega) w) ?_
  rintro _ w1 ⟨rfl, hG⟩
  have hw1 := hG _ _ _ _ hw0
  try clear hG hw0
  simp only [List.cons_append, List.nil_append] at hw1
  have hdl := dtx_le (x := 0 - n) (by omega)
  refine l_adds rfl rfl rfl rfl (by first | omega | (simp only [List.length_append, List.length_cons, List.length_nil] at *; omega)) ?_
  refine l_assign rfl rfl rfl (l_nil (e_then ?_))
  refine c_keep [2] (.cons rfl .nil) ?_
  refine c_ret ?_
  refine e_then_ret ?_
  refine e_done1 Tryz.results30 rfl ?_
  refine ⟨_, rfl, ?_⟩
  refine ⟨?_, hw1.grows⟩
  unfold itoaT
  rw [if_pos hc0, show -n = 0 - n by omega]
  all_goals rfl
 ·skip
  refine c_skip (e_then ?_)
  refine c_keep [0] (.cons rfl .nil) ?_
  refine c_seq (c_region (l_move rfl rfl rfl ?_))
  refine l_conv rfl rfl Tryz.underlying3 Tryz.underlying22 rfl (w_u64 (by omega)) ?_
  refine v_lit hw0 rfl rfl Tryz.underlying83 ti22 rfl (.cons rfl (by first | rfl | assumption) .nil) rfl rfl rfl (fun b3_2 w2 hw2 => ?_)
  try clear hw0
  refine l_call rfl rfl Tryz.func29 rfl rfl (.cons rfl .nil) (numR _ [n] (U.one (by omega)) (by simp) w2 (hw2.ibl mem0)) ?_
  rintro vm w3 ⟨_, lm, rfl, hRm, hG⟩
  have hw3 := hG _ _ _ _ hw2
  try clear hG hw2
  simp only [List.cons_append, List.nil_append] at hw3
  have hRm2 : R16 lm (n) := by have := hRm; rw [show Ma.vb 18446744073709551616 [n] = n from nv_one _] at this; exact this
  have hlm := R16.len_num (U.one (x := n) (by omega)) hRm
  simp only [List.length_cons, List.length_nil] at hlm
  refine l_call rfl rfl Tryz.func28 rfl rfl (.cons rfl .nil) (digitsR vm lm (n) hRm2 (by omega) w3 (hw3.io mem0)) ?_
  rintro _ w4 ⟨rfl, hG⟩
  have hw4 := hG _ _ _ _ hw3
  try clear hG hw3
  simp only [List.cons_append, List.nil_append] at hw4
  refine l_assign rfl rfl rfl (l_nil (e_then ?_))
  refine c_keep [2] (.cons rfl .nil) ?_
  refine c_ret ?_
  refine e_done1 Tryz.results30 rfl ?_
  refine ⟨_, rfl, ?_⟩
  have hw5 := St.del (.tail .head) hw4
  try clear hw4
  have hw6 := St.del .head hw5
  try clear hw5
  refine ⟨?_, hw6.grows⟩
  unfold itoaT
  rw [if_neg hc0]
  all_goals rfl
theorem first11 (vx vy : Value) (lx ly : List Int) (x y : Int) (hRx : R16 lx x) (hRy : R16 ly y) (hbx : Ma.blen x ≤ (1100 : Nat)) (hby : Ma.blen y ≤ (1100 : Nat)) (hy0 : 0 < y) (t : Int) (ht : TopR x y t) (hl : -400 ≤ t ∧ t ≤ 400) (w : World) (hvx : IV w vx (ints .i64 lx)) (hvy : IV w vy (ints .i64 ly)) :
  CallsV P 45 [vx, vy] w fun r w' => r = .int .i64 t ∧ Grow w w' [] := by
 refine enterW Tryz.func45 rfl Tryz.ntmps45 rfl ?_
 have hw0 := St.start w
 have hx0 := hRx.nonneg (by omega)
 have hlx := hRx.len hbx
 have hly := hRy.len hby
 refine c_seq (c_region (l_assign rfl rfl rfl (l_nil (e_then ?_))))
 refine c_keep [0, 1] (.cons rfl (.cons rfl .nil)) ?_
 refine c_seq (c_region (l_assign rfl rfl rfl (l_nil (e_then (c_seq ?_)))))
 refine c_block ?_
 refine c_loopk (ι := Nat) (fun (k : Nat) => (t - k).toNat) (fun (k : Nat) (w' : World) => St w w.heap.size None' ([]) w' ∧ ((k : Int) ≤ t ∨ k = 0)) (fun (k : Nat) => [(5, .int .i64 (k : Int))]) [0, 1] (0) ?_ (.cons rfl (.cons rfl .nil)) ?_ ?_
 ·exact ⟨hw0, .inr rfl⟩
 ·exact (.cons rfl (by first | rfl | (refine congrArg (Value.int _) ?_; omega)) .nil)
 rintro k w1 ⟨hw1, hk⟩
 show RunC P _ _ _ (_ :: _) _
 refine c_seq (c_seq (c_region (l_move rfl rfl rfl (l_move rfl rfl rfl (l_move rfl rfl rfl ?_)))))
 refine l_add rfl rfl rfl rfl (w_i64 (by omega)) ?_
 refine l_call rfl rfl Tryz.func43 rfl rfl (.cons rfl .nil) (tenR ((k : Int) + 1) (by omega) w1) ?_
 rintro vt w2 ⟨_, lt, rfl, hRt, hG⟩
 have hw2 := hG _ _ _ _ hw1
 try clear hG hw1
 simp only [List.cons_append, List.nil_append] at hw2
 have hb10 := blen_10 ((k : Int) + 1).toNat
 have hllt := hRt.len hb10
 refine l_call rfl rfl Tryz.func42 rfl rfl (.cons rfl (.cons rfl .nil)) (prodR vy vt ly lt _ _ hRy hRt (by omega) (by omega) w2 (hw2.iarg hvy) (hw2.io mem0)) ?_
 rintro vp w3 ⟨_, lp, rfl, hRp, hG⟩
 have hw3 := hG _ _ _ _ hw2
 try clear hG hw2
 simp only [List.cons_append, List.nil_append] at hw3
 have hllp := hRy.len_mul hRt hRp
 refine l_call rfl rfl Tryz.func65 rfl rfl (.cons rfl (.cons rfl .nil)) (cmpR _ _ _ _ _ _ hRx hRp (by omega) (by omega) w3 (hw3.iarg hvx) (hw3.io mem0)) ?_
 rintro _ w4 ⟨rfl, hG⟩
 have hw4 := hG _ _ _ _ hw3
 try clear hG hw3
 simp only [List.cons_append, List.nil_append] at hw4
 refine l_geq rfl rfl rfl rfl ?_
 refine l_nil (e_then ?_)
 refine c_keep [0, 1, 5, 13] (.cons rfl (.cons rfl (.cons rfl (.cons rfl .nil)))) ?_
 first | refine c_cond rfl (fun hc0 => ?_) (fun hc0 => ?_) | refine c_condb rfl (fun hc0 => ?_) (fun hc0 => ?_)
 ·skip
  have hst := ((top_at hy0 ht).1 (by omega)).1 (cmpI_ge0.1 hc0)
  refine c_skip (e_then ?_)
  refine c_keep [0, 1, 5] (.cons rfl (.cons rfl (.cons rfl .nil))) ?_
  refine c_block (c_region (l_move rfl rfl rfl ?_))
  refine l_add rfl rfl rfl rfl (w_i64 (by omega)) ?_
  refine l_assign rfl rfl rfl (l_nil ?_)
  refine e_blk ?_
  have hw5 := St.del (.tail .head) hw4
  try clear hw4
  have hw6 := St.del .head hw5
  try clear hw5
  refine e_againk (i := (k)) (k + 1) ?_ ?_ (.cons rfl (.cons rfl .nil)) ?_
  ·first | omega | (simp; omega)
  ·exact ⟨hw6, .inl (by omega)⟩
  ·exact (.cons rfl (by first | rfl | (refine congrArg (Value.int _) ?_; omega)) .nil)
 ·skip
  have hst : ¬ (k : Int) + 1 ≤ t := fun h => hc0 (cmpI_ge0.2 (((top_at hy0 ht).1 (by omega)).2 h))
  refine c_exit ?_
  refine e_then_exit ?_
  refine e_then_exit ?_
  refine e_blk_exit ?_
  refine e_then ?_
  refine c_keep [0, 1, 5] (.cons rfl (.cons rfl (.cons rfl .nil))) ?_
  refine c_seq (c_block ?_)
  refine c_loopk (ι := Nat) (fun (j : Nat) => ((k : Int) - j - t).toNat) (fun (j : Nat) (w' : World) => St w w.heap.size None' ([]) w' ∧ (k = 0 ∨ j = 0) ∧ (j : Int) ≤ 400 ∧ t ≤ (k : Int) - j) (fun (j : Nat) => [(5, .int .i64 ((k : Int) - j))]) [0, 1] (0) ?_ (.cons rfl (.cons rfl .nil)) ?_ ?_
  ·have hd1 := St.del .head hw4
   have hd2 := St.del .head hd1
   exact ⟨hd2, .inr rfl, by omega, by omega⟩
  ·exact (.cons rfl (by first | rfl | (refine congrArg (Value.int _) ?_; omega)) .nil)
  rintro j w7 ⟨hw7, hkj, hj4, htj⟩
  show RunC P _ _ _ (_ :: _) _
  refine c_seq (c_seq (c_region (l_move rfl rfl rfl ?_)))
  refine l_leq rfl rfl rfl rfl ?_
  refine l_move rfl rfl rfl ?_
  apply l_andS hw7 8 [0, 1, 5] rfl rfl (.cons rfl (.cons rfl (.cons rfl (.cons rfl .nil)))) rfl rfl (fun _ => rfl) rfl rfl rfl
  ·intro hg4_3
   refine l_move rfl rfl rfl (l_move rfl rfl rfl ?_)
   refine l_neg rfl rfl rfl (w_i64 (by omega)) ?_
   refine l_call rfl rfl Tryz.func43 rfl rfl (.cons rfl .nil) (tenR (0 - ((k : Int) - j)) (by omega) w7) ?_
   rintro vt w8 ⟨_, lt, rfl, hRt, hG⟩
   have hw8 := hG _ _ _ _ hw7
   try clear hG hw7
   simp only [List.cons_append, List.nil_append] at hw8
   have hb10 := blen_10 (0 - ((k : Int) - j)).toNat
   have hllt := hRt.len hb10
   refine l_call rfl rfl Tryz.func42 rfl rfl (.cons rfl (.cons rfl .nil)) (prodR vx vt lx lt _ _ hRx hRt (by omega) (by omega) w8 (hw8.iarg hvx) (hw8.io mem0)) ?_
   rintro vp w9 ⟨_, lp, rfl, hRp, hG⟩
   have hw9 := hG _ _ _ _ hw8
   try clear hG hw8
   simp only [List.cons_append, List.nil_append] at hw9
   have hllp := hRx.len_mul hRt hRp
   refine l_move rfl rfl rfl ?_
   refine l_call rfl rfl Tryz.func65 rfl rfl (.cons rfl (.cons rfl .nil)) (cmpR _ _ _ _ _ _ hRp hRy (by omega) (by omega) w9 (hw9.io mem0) (hw9.iarg hvy)) ?_
   rintro _ w10 ⟨rfl, hG⟩
   have hw10 := hG _ _ _ _ hw9
   try clear hG hw9
   simp only [List.cons_append, List.nil_append] at hw10
   refine l_lss rfl rfl rfl rfl ?_
   have hw11 := St.del (.tail .head) hw10
   try clear hw10
   have hw12 := St.del .head hw11
   try clear hw11
   refine l_nil ?_
   exact e_staysS hw12 rfl (.cons rfl (congrArg Value.bool (decide_eq_true hg4_3).symm) (.cons rfl rfl (.cons rfl rfl (.cons rfl rfl .nil))))
  intro w13 hw13
  try clear hw7
  refine l_nil (e_then ?_)
  refine c_keep [0, 1, 5, 27] (.cons rfl (.cons rfl (.cons rfl (.cons rfl .nil)))) ?_
  first | refine c_cond rfl (fun hc1 => ?_) (fun hc1 => ?_) | refine c_condb rfl (fun hc1 => ?_) (fun hc1 => ?_)
  ·skip
   have hst2 := ((top_at hy0 ht).2 (by omega)).1 (cmpI_lt0.1 hc1.2)
   refine c_skip (e_then ?_)
   refine c_keep [0, 1, 5] (.cons rfl (.cons rfl (.cons rfl .nil))) ?_
   refine c_block (c_region (l_move rfl rfl rfl ?_))
   refine l_sub rfl rfl rfl rfl (w_i64 (by omega)) ?_
   refine l_assign rfl rfl rfl (l_nil ?_)
   refine e_blk ?_
   refine e_againk (i := (j)) (j + 1) ?_ ?_ (.cons rfl (.cons rfl .nil)) ?_
   ·first | omega | (simp; omega)
   ·exact ⟨hw13, by omega, by omega, by omega⟩
   ·exact (.cons rfl (by first | rfl | (refine congrArg (Value.int _) ?_; omega)) .nil)
  ·skip
   have hst2 : ¬ ((k : Int) - j ≤ 0 ∧ t < (k : Int) - j) := fun h => hc1 ⟨h.1, cmpI_lt0.2 (((top_at hy0 ht).2 h.1).2 h.2)⟩
   refine c_exit ?_
   refine e_then_exit ?_
   refine e_then_exit ?_
   refine e_blk_exit ?_
   refine e_then ?_
   refine c_keep [5] (.cons rfl .nil) ?_
   refine c_seq (c_region (l_move rfl rfl rfl (l_assign rfl rfl rfl (l_nil (e_then ?_)))))
   refine c_keep [4] (.cons rfl .nil) ?_
   refine c_ret ?_
   refine e_done1 Tryz.results45 rfl ?_
   refine ⟨_, rfl, ?_⟩
   refine ⟨?_, hw13.grows⟩
   rw [show (k : Int) - j = t by omega]
theorem Exponent11 (k b : Int) (hb : 0 ≤ b ∧ b ≤ 18446744073709551615) (n : Int) (hn : -9223372036854775808 ≤ n ∧ n ≤ 9223372036854775807) (w : World) :
  CallsV P 17 [.int .i64 k, .int .u64 b, .int .i64 n] w fun r w' => ∃ v e t, r = .tuple #[v, .int .i64 e] ∧ ExT k b n e t ∧ Grow w w' [As.iv v (bys t)] := by
 refine enterW Tryz.func17 rfl Tryz.ntmps17 rfl ?_
 have hw0 := St.start w
 refine c_seq (c_region (l_assign rfl rfl rfl (l_assign rfl rfl rfl (l_nil (e_then ?_)))))
 refine c_keep [0, 1, 2] (.cons rfl (.cons rfl (.cons rfl .nil))) ?_
 refine c_seq (c_seq (c_region (l_move rfl rfl rfl (l_move rfl rfl rfl (l_move rfl rfl rfl ?_)))))
 refine l_callp rfl rfl Tryz.func39 rfl rfl (.cons rfl (.cons rfl (.cons rfl .nil))) (check11 k b hb n w) ?_
 refine l_assign rfl rfl rfl (l_nil (e_then ?_))
 refine c_keep [0, 1, 2, 8] (.cons rfl (.cons rfl (.cons rfl (.cons rfl .nil)))) ?_
 refine c_seq (c_region (l_move rfl rfl rfl ?_))
 refine l_neq rfl rfl rfl rfl ?_
 refine l_nil (e_then ?_)
 refine c_keep [0, 1, 2, 8, 20] (.cons rfl (.cons rfl (.cons rfl (.cons rfl (.cons rfl .nil))))) ?_
 first | refine c_cond rfl (fun hc0 => ?_) (fun hc0 => ?_) | refine c_condb rfl (fun hc0 => ?_) (fun hc0 => ?_)
 ·skip
  refine c_seq (c_region (l_move rfl rfl rfl (l_assign rfl rfl rfl (l_assign rfl rfl rfl (l_nil ?_)))))
  refine e_then ?_
  refine c_keep [6, 7] (.cons rfl (.cons rfl .nil)) ?_
  refine c_ret ?_
  refine e_then_ret ?_
  refine e_done2 Tryz.results17 rfl rfl ?_
  refine ⟨_, rfl, ?_⟩
  exact ⟨_, _, [], rfl, ⟨rfl, fun _ => rfl, fun h => absurd h hc0⟩, (St.ro_iv (hw0.nil 5)).grows⟩
 ·skip
  obtain ⟨hc02, hn0, hn40⟩ := askE_0 (k := k) (b := b) (n := n) (by omega)
  obtain ⟨d, hk, hltS, hcl⟩ := clsF_ok hb hc02
  have hbd := d.bd
  have hb2 : 0 ≤ b ∧ b < 2 * d.S := ⟨hb.1, hltS⟩
  have hms := mod_S d hb2
  refine c_skip (e_then ?_)
  refine c_keep [0, 1, 2] (.cons rfl (.cons rfl (.cons rfl .nil))) ?_
  refine c_seq (c_region (l_move rfl rfl rfl (l_move rfl rfl rfl ?_)))
  refine l_call rfl rfl Tryz.func26 rfl rfl (.cons rfl (.cons rfl .nil)) (word11 k d hk b hb2 w) ?_
  rintro _ w1 ⟨rfl, hG⟩
  have hw1 := hG _ _ _ _ hw0
  try clear hG hw0
  simp only [List.cons_append, List.nil_append] at hw1
  obtain ⟨W, hW⟩ : ∃ W : List UInt8, W = (if d.I < b % d.S then [110, 97, 110] else if b % d.S = d.I then [105, 110, 102] else []) := ⟨_, rfl⟩
  obtain ⟨G, hGs⟩ : ∃ G : List UInt8, G = (if d.I < b % d.S then [] else sgT d b) := ⟨_, rfl⟩
  rw [← hW, ← hGs]
  have hWl : W.length ≤ 3 := by rw [hW]; (repeat' split) <;> (first | decide | simp)
  have hGl : G.length ≤ 1 := by rw [hGs]; unfold sgT; (repeat' split) <;> (first | decide | simp)
  refine l_move rfl rfl rfl (l_extract rfl rfl rfl rfl (l_extract rfl rfl rfl rfl (l_assign rfl rfl rfl (l_assign rfl rfl rfl (l_nil ?_)))))
  refine e_then ?_
  refine c_keep [0, 1, 2, 9, 10] (.cons rfl (.cons rfl (.cons rfl (.cons rfl (.cons rfl .nil))))) ?_
  refine c_seq (c_seq (c_region (l_move rfl rfl rfl ?_)))
  refine l_neqs rfl rfl rfl rfl ?_
  refine l_nil (e_then ?_)
  refine c_keep [0, 1, 2, 9, 10, 29] (.cons rfl (.cons rfl (.cons rfl (.cons rfl (.cons rfl (.cons rfl .nil)))))) ?_
  first | refine c_cond rfl (fun hc1 => ?_) (fun hc1 => ?_) | refine c_condb rfl (fun hc1 => ?_) (fun hc1 => ?_)
  ·skip
   refine c_seq (c_region (l_move rfl rfl rfl (l_move rfl rfl rfl ?_)))
   refine l_adds rfl rfl rfl rfl (by first | omega | (simp only [List.length_append, List.length_cons, List.length_nil] at *; omega)) ?_
   refine v_tobytes hw1 rfl rfl Tryz.underlying9 Tryz.underlying24 Tryz.underlying5 rfl (fun v6_3 w2 hw2 => ?_)
   try clear hw1
   refine l_assign rfl rfl rfl (l_assign rfl rfl rfl (l_nil (e_then ?_)))
   refine c_keep [6, 7] (.cons rfl (.cons rfl .nil)) ?_
   refine c_ret ?_
   refine e_then_ret ?_
   refine e_done2 Tryz.results17 rfl rfl ?_
   refine ⟨_, rfl, ?_⟩
   have hov : d.I ≤ b % d.S ∧ ∀ x, G ++ W = wdT d b x := by
    rw [hGs, hW]
    unfold wdT
    rw [hW] at hc1
    split
    ·exact ⟨by omega, fun _ => rfl⟩
    ·rename_i h1
     rw [if_neg h1] at hc1
     split
     ·exact ⟨by omega, fun _ => rfl⟩
     ·rename_i h2
      rw [if_neg h2] at hc1
      exact absurd rfl hc1
   exact ⟨_, 0, _, rfl, ⟨by omega, fun h => absurd rfl h, fun _ => ⟨d, (if b % d.S = 0 then ptT (zsT (n + 1)) 1 ++ exT 0 else []), hk, hltS, hov.2 _, fun h => if_pos h, fun h1 h2 => absurd h2 (by omega)⟩⟩, hw2.grows⟩
  ·skip
   have hWn : W = [] := Classical.not_not.1 hc1
   have hfin : b % d.S < d.I := by
    rcases Int.lt_or_le (b % d.S) d.I with h | h
    ·exact h
    ·exfalso
     rw [hWn] at hW
     split at hW
     ·cases hW
     ·rw [if_pos (by omega)] at hW; cases hW
   have hGd : G = sgT d b := by rw [hGs, if_neg (by omega)]
   refine c_skip (e_then ?_)
   refine c_keep [0, 1, 2, 10] (.cons rfl (.cons rfl (.cons rfl (.cons rfl .nil)))) ?_
   refine c_seq (c_region (l_move rfl rfl rfl (l_move rfl rfl rfl ?_)))
   refine l_call rfl rfl Tryz.func40 rfl rfl (.cons rfl (.cons rfl .nil)) (value11 k d hk b hb2 hfin w1) ?_
   rintro _ w3 ⟨vx, lx, vy, ly, rfl, hRx, hRy, hG⟩
   have hw3 := hG _ _ _ _ hw1
   try clear hG hw1
   simp only [List.cons_append, List.nil_append] at hw3
   have hxy := fX_blen (d := d) (b := b % d.S) (by omega)
   have hllx := hRx.len hxy.2.1
   have hlly := hRy.len hxy.2.2
   have hlz := hRx.nil_iff (by omega)
   have hzl : (zsT (n + 1)).length = (n + 1).toNat := by unfold zsT; rw [List.length_replicate]
   have hfz : b % d.S = 0 → fX d (b % d.S) = 0 := fun h => by
    unfold fX splM
    rw [h, Int.zero_emod, if_pos (by omega), Int.zero_mul]
   refine l_move rfl rfl rfl (l_extract rfl rfl rfl rfl (l_extract rfl rfl rfl rfl (l_assign rfl rfl rfl (l_assign rfl rfl rfl (l_nil ?_)))))
   refine e_then ?_
   refine c_keep [2, 10, 11, 12] (.cons rfl (.cons rfl (.cons rfl (.cons rfl .nil)))) ?_
   refine c_seq (c_region (l_move rfl rfl rfl ?_))
   refine l_add rfl rfl rfl rfl (w_i64 (by omega)) ?_
   refine l_callp rfl rfl Tryz.func31 rfl rfl (.cons rfl .nil) (noughts11 (n + 1) (by omega) w3) ?_
   refine l_assign rfl rfl rfl (l_assign rfl rfl rfl (l_nil (e_then ?_)))
   refine c_keep [2, 10, 11, 12, 13, 14] (.cons rfl (.cons rfl (.cons rfl (.cons rfl (.cons rfl (.cons rfl .nil)))))) ?_
   refine c_cutk (ι := List UInt8 × Int) (fun (z0 : List UInt8 × Int) (w' : World) => match z0 with | ⟨s, e2⟩ => St w w.heap.size None' ([]) w' ∧ (s.length : Int) = n + 1 ∧ -400 ≤ e2 ∧ e2 ≤ 401 ∧ (b % d.S = 0 → s = zsT (n + 1) ∧ e2 = 0) ∧ (0 < b % d.S → ∃ x, TopR (fX d (b % d.S)) (fY d (b % d.S)) x ∧ ptT s 1 ++ exT e2 = exB (rnE (fN (fX d (b % d.S)) (-(n - x))) (fD (fY d (b % d.S)) (-(n - x)))) n x)) (fun (z0 : List UInt8 × Int) => match z0 with | ⟨s, e2⟩ => [(13, str s), (14, .int .i64 e2)]) [2, 10] (.cons rfl (.cons rfl .nil)) ?_ ?_
   ·skip
    refine c_seq (c_region (l_move rfl rfl rfl ?_))
    refine v_leni rfl rfl Tryz.underlying64 rfl (by first | exact hw3.io mem0 | exact hw3.io mem1 | assumption) ?_
    refine l_gtr rfl rfl rfl rfl ?_
    refine l_nil (e_then ?_)
    refine c_keep [2, 10, 11, 12, 13, 14, 45] (.cons rfl (.cons rfl (.cons rfl (.cons rfl (.cons rfl (.cons rfl (.cons rfl .nil))))))) ?_
    first | refine c_cond rfl (fun hc2 => ?_) (fun hc2 => ?_) | refine c_condb rfl (fun hc2 => ?_) (fun hc2 => ?_)
    ·skip
     have hpos : 0 < b % d.S := by
      rcases Int.lt_or_eq_of_le (show 0 ≤ b % d.S by omega) with h1 | h1
      ·exact h1
      ·have h2 := hlz.2 (hfz h1.symm)
       rw [h2] at hc2
       simp at hc2
     have hfl := flt_of ⟨hpos, hfin⟩
     obtain ⟨x, ht, het, hlo4, hhi3, _⟩ := flt_top hfl
     have hlo3 := flt_low hfl het
     have hel := ex_len hfl.hy hn0 ht
     have hD0 := fD_pos hfl.hy (-(n - x))
     refine c_seq (c_region (l_move rfl rfl rfl (l_move rfl rfl rfl ?_)))
     refine l_call rfl rfl Tryz.func45 rfl rfl (.cons rfl (.cons rfl .nil)) (first11 vx vy lx ly _ _ hRx hRy hxy.2.1 hxy.2.2 hfl.hy x ht (by omega) w3 (hw3.io mem1) (hw3.io mem0)) ?_
     rintro _ w4 ⟨rfl, hG⟩
     have hw4 := hG _ _ _ _ hw3
     try clear hG hw3
     simp only [List.cons_append, List.nil_append] at hw4
     refine l_assign rfl rfl rfl (l_nil (e_then ?_))
     refine c_keep [2, 10, 11, 12, 14] (.cons rfl (.cons rfl (.cons rfl (.cons rfl (.cons rfl .nil))))) ?_
     refine c_cutk (ι := Value × List Int × Value × List Int) (fun (z0 : Value × List Int × Value × List Int) (w' : World) => match z0 with | ⟨vx2, lx2, vy2, ly2⟩ => St w w.heap.size None' ([As.ri 3 .i64 vx2 lx2, As.ri 3 .i64 vy2 ly2]) w' ∧ R16 lx2 (fN (fX d (b % d.S)) (-(n - x))) ∧ R16 ly2 (fD (fY d (b % d.S)) (-(n - x))) ∧ lx2.length ≤ 4096 ∧ ly2.length ≤ 4096) (fun (z0 : Value × List Int × Value × List Int) => match z0 with | ⟨vx2, lx2, vy2, ly2⟩ => [(11, vx2), (12, vy2)]) [2, 10, 14] (.cons rfl (.cons rfl (.cons rfl .nil))) ?_ ?_
     ·skip
      refine c_seq (c_region (l_move rfl rfl rfl (l_move rfl rfl rfl ?_)))
      refine l_gtr rfl rfl rfl rfl ?_
      refine l_nil (e_then ?_)
      refine c_keep [2, 10, 11, 12, 14, 51] (.cons rfl (.cons rfl (.cons rfl (.cons rfl (.cons rfl (.cons rfl .nil)))))) ?_
      first | refine c_cond rfl (fun hc3 => ?_) (fun hc3 => ?_) | refine c_condb rfl (fun hc3 => ?_) (fun hc3 => ?_)
      ·skip
       refine c_region (l_move rfl rfl rfl (l_move rfl rfl rfl (l_move rfl rfl rfl ?_)))
       refine l_sub rfl rfl rfl rfl (w_i64 (by omega)) ?_
       refine l_call rfl rfl Tryz.func43 rfl rfl (.cons rfl .nil) (tenR (x - n) (by omega) w4) ?_
       rintro vt w5 ⟨_, lt, rfl, hRt, hG⟩
       have hw5 := hG _ _ _ _ hw4
       try clear hG hw4
       simp only [List.cons_append, List.nil_append] at hw5
       have hb10 := blen_10 (x - n).toNat
       have hllt := hRt.len hb10
       refine l_call rfl rfl Tryz.func42 rfl rfl (.cons rfl (.cons rfl .nil)) (prodR vy vt ly lt _ _ hRy hRt (by omega) (by omega) w5 (hw5.io mem1) (hw5.io mem0)) ?_
       rintro vyp w6 ⟨_, lp, rfl, hRp, hG⟩
       have hw6 := hG _ _ _ _ hw5
       try clear hG hw5
       simp only [List.cons_append, List.nil_append] at hw6
       have hllp := hRy.len_mul hRt hRp
       refine l_assign rfl rfl rfl (l_nil ?_)
       have hw7 := St.frontL (l := [_, _, _]) hw6
       simp only [List.cons_append, List.nil_append] at hw7
       try clear hw6
       have hw8 := St.del (.tail (.tail (.tail .head))) hw7
       try clear hw7
       have hw9 := St.del (.tail (.tail .head)) hw8
       try clear hw8
       refine e_meetk (vx, lx, vyp, lp) ?_ (.cons rfl (.cons rfl (.cons rfl .nil))) ?_
       ·refine ⟨hw9, ?_, ?_, by omega, by omega⟩
        ·unfold fN; rw [show (-(-(n - x))).toNat = 0 by omega, Int.pow_zero, Int.mul_one]; exact hRx
        ·unfold fD; rw [show -(n - x) = x - n by omega]; exact hRp
       ·exact (.cons rfl (by first | rfl | (refine congrArg (Value.int _) ?_; omega)) (.cons rfl (by first | rfl | (refine congrArg (Value.int _) ?_; omega)) .nil))
      ·skip
       refine c_region (l_move rfl rfl rfl (l_move rfl rfl rfl (l_move rfl rfl rfl ?_)))
       refine l_sub rfl rfl rfl rfl (w_i64 (by omega)) ?_
       refine l_call rfl rfl Tryz.func43 rfl rfl (.cons rfl .nil) (tenR (n - x) (by omega) w4) ?_
       rintro vt w10 ⟨_, lt, rfl, hRt, hG⟩
       have hw10 := hG _ _ _ _ hw4
       try clear hG hw4
       simp only [List.cons_append, List.nil_append] at hw10
       have hb10 := blen_10 (n - x).toNat
       have hllt := hRt.len hb10
       refine l_call rfl rfl Tryz.func42 rfl rfl (.cons rfl (.cons rfl .nil)) (prodR vx vt lx lt _ _ hRx hRt (by omega) (by omega) w10 (hw10.io mem2) (hw10.io mem0)) ?_
       rintro vxp w11 ⟨_, lp, rfl, hRp, hG⟩
       have hw11 := hG _ _ _ _ hw10
       try clear hG hw10
       simp only [List.cons_append, List.nil_append] at hw11
       have hllp := hRx.len_mul hRt hRp
       refine l_assign rfl rfl rfl (l_nil ?_)
       have hw12 := St.frontL (l := [_, _]) hw11
       simp only [List.cons_append, List.nil_append] at hw12
       try clear hw11
       have hw13 := St.frontL (l := [_]) hw12
       simp only [List.cons_append, List.nil_append] at hw13
       try clear hw12
       have hw14 := St.del (.tail (.tail (.tail .head))) hw13
       try clear hw13
       have hw15 := St.del (.tail (.tail .head)) hw14
       try clear hw14
       refine e_meetk (vxp, lp, vy, ly) ?_ (.cons rfl (.cons rfl (.cons rfl .nil))) ?_
       ·refine ⟨hw15, ?_, ?_, by omega, by omega⟩
        ·unfold fN; rw [show -(-(n - x)) = n - x by omega]; exact hRp
        ·unfold fD; rw [show (-(n - x)).toNat = 0 by omega, Int.pow_zero, Int.mul_one]; exact hRy
       ·exact (.cons rfl (by first | rfl | (refine congrArg (Value.int _) ?_; omega)) (.cons rfl (by first | rfl | (refine congrArg (Value.int _) ?_; omega)) .nil))
     rintro ⟨vx2, lx2, vy2, ly2⟩ w16 ⟨hw16, hRN, hRD, hlN, hlD⟩
     show RunC P _ _ _ (_ :: _) _
     refine c_seq (c_region (l_move rfl rfl rfl (l_move rfl rfl rfl ?_)))
     refine l_call rfl rfl Tryz.func41 rfl rfl (.cons rfl (.cons rfl .nil)) (rounded11 vx2 vy2 lx2 ly2 (fN (fX d (b % d.S)) (-(n - x))) (fD (fY d (b % d.S)) (-(n - x))) hRN hRD (by omega) (by omega) hD0 w16 (hw16.io mem0) (hw16.io mem1)) ?_
     rintro vr w17 ⟨_, lr, rfl, hRr, hG⟩
     have hw17 := hG _ _ _ _ hw16
     try clear hG hw16
     simp only [List.cons_append, List.nil_append] at hw17
     have hrb : Ma.blen (rnE (fN (fX d (b % d.S)) (-(n - x))) (fD (fY d (b % d.S)) (-(n - x)))) ≤ (2900 : Nat) := rn_blen (by omega) (by omega)
     refine l_call rfl rfl Tryz.func28 rfl rfl (.cons rfl .nil) (digitsR vr lr _ hRr (by have := hRr.blen; have := hRr.len (k := 2900) hrb; omega) w17 (hw17.io mem0)) ?_
     rintro _ w18 ⟨rfl, hG⟩
     have hw18 := hG _ _ _ _ hw17
     try clear hG hw17
     simp only [List.cons_append, List.nil_append] at hw18
     refine l_assign rfl rfl rfl (l_nil (e_then ?_))
     refine c_keep [2, 10, 13, 14] (.cons rfl (.cons rfl (.cons rfl (.cons rfl .nil)))) ?_
     refine c_seq (c_region (l_move rfl rfl rfl ?_))
     refine l_lenstr rfl rfl Tryz.underlying9 rfl ?_
     refine l_move rfl rfl rfl ?_
     refine l_add rfl rfl rfl rfl (w_i64 (by omega)) ?_
     refine l_gtr rfl rfl rfl rfl ?_
     refine l_nil (e_then ?_)
     refine c_keep [2, 10, 13, 14, 72] (.cons rfl (.cons rfl (.cons rfl (.cons rfl (.cons rfl .nil))))) ?_
     first | refine c_cond rfl (fun hc4 => ?_) (fun hc4 => ?_) | refine c_condb rfl (fun hc4 => ?_) (fun hc4 => ?_)
     ·skip
      refine c_seq (c_region (l_move rfl rfl rfl (l_move rfl rfl rfl ?_)))
      refine l_add rfl rfl rfl rfl (w_i64 (by omega)) ?_
      refine l_turn (s := 75) (v' := .int .i64 ((n.toNat + 1 : Nat) : Int)) rfl (congrArg (Value.int .i64) (by omega)) ?_
      refine l_slices (l := 0) (h := n.toNat + 1) rfl rfl Tryz.underlying9 rfl rfl rfl (by first | rfl | (simp; done) | (simp; omega)) (by first | rfl | (simp; done) | (simp; omega)) (by omega) (by first | omega | (simp; omega) | (simp; done)) ?_
      refine l_assign rfl rfl rfl (l_nil (e_then ?_))
      refine c_keep [2, 10, 13, 14] (.cons rfl (.cons rfl (.cons rfl (.cons rfl .nil)))) ?_
      refine c_region (l_move rfl rfl rfl ?_)
      refine l_add rfl rfl rfl rfl (w_i64 (by omega)) ?_
      refine l_assign rfl rfl rfl (l_nil ?_)
      have hw19 := St.del (.tail (.tail .head)) hw18
      try clear hw18
      have hw20 := St.del (.tail .head) hw19
      try clear hw19
      have hw21 := St.del .head hw20
      try clear hw20
      refine e_meetk ((dtx (rnE (fN (fX d (b % d.S)) (-(n - x))) (fD (fY d (b % d.S)) (-(n - x))))).take (n.toNat + 1), x + 1) ?_ (.cons rfl (.cons rfl .nil)) ?_
      ·exact ⟨hw21, by rw [List.length_take]; omega, by omega, by omega, fun h => absurd h (by omega), fun h => ⟨x, ht, by unfold exB; rw [if_pos (by omega)]⟩⟩
      ·exact (.cons rfl (by first | rfl | simp) (.cons rfl (by first | rfl | (refine congrArg (Value.int _) ?_; omega)) .nil))
     ·skip
      refine c_skip ?_
      have hw22 := St.del (.tail (.tail .head)) hw18
      try clear hw18
      have hw23 := St.del (.tail .head) hw22
      try clear hw22
      have hw24 := St.del .head hw23
      try clear hw23
      refine e_meetk (dtx (rnE (fN (fX d (b % d.S)) (-(n - x))) (fD (fY d (b % d.S)) (-(n - x)))), x) ?_ (.cons rfl (.cons rfl .nil)) ?_
      ·exact ⟨hw24, by omega, by omega, by omega, fun h => absurd h (by omega), fun h => ⟨x, ht, by unfold exB; rw [if_neg (by omega)]⟩⟩
      ·exact (.cons rfl (by first | rfl | simp) (.cons rfl (by first | rfl | (refine congrArg (Value.int _) ?_; omega)) .nil))
    ·skip
     have hpz : b % d.S = 0 := by
      rcases Int.lt_or_eq_of_le (show 0 ≤ b % d.S by omega) with h1 | h1
      ·have hfl := flt_of ⟨h1, hfin⟩
       have := hfl.hx
       have h2 : ¬ lx = [] := fun h => by have := hlz.1 h; omega
       have := List.length_pos_iff.2 h2
       omega
      ·exact h1.symm
     refine c_skip ?_
     have hw25 := St.del (.tail .head) hw3
     try clear hw3
     have hw26 := St.del .head hw25
     try clear hw25
     refine e_meetk (zsT (n + 1), 0) ?_ (.cons rfl (.cons rfl .nil)) ?_
     ·exact ⟨hw26, by omega, by omega, by omega, fun h => ⟨rfl, rfl⟩, fun h => absurd h (by omega)⟩
     ·exact (.cons rfl (by first | rfl | simp) (.cons rfl (by first | rfl | (refine congrArg (Value.int _) ?_; omega)) .nil))
   rintro ⟨s, e2⟩ w27 ⟨hw27, hsl, he21, he22, hz3, hn3⟩
   show RunC P _ _ _ (_ :: _) _
   refine c_cutk (ι := List UInt8) (fun (s2 : List UInt8) (w' : World) => St w w.heap.size None' ([]) w' ∧ s2 = ptT s 1 ∧ s2.length ≤ 1000) (fun (s2 : List UInt8) => [(13, str s2)]) [10, 14] (.cons rfl (.cons rfl .nil)) ?_ ?_
   ·skip
    refine c_seq (c_region (l_move rfl rfl rfl ?_))
    refine l_gtr rfl rfl rfl rfl ?_
    refine l_nil (e_then ?_)
    refine c_keep [10, 13, 14, 80] (.cons rfl (.cons rfl (.cons rfl (.cons rfl .nil)))) ?_
    first | refine c_cond rfl (fun hc5 => ?_) (fun hc5 => ?_) | refine c_condb rfl (fun hc5 => ?_) (fun hc5 => ?_)
    ·skip
     refine c_still (by kernel_rfl) (by kernel_rfl) ?_
     have hw28 := hw27.drewn
     try clear hw27
     have hd1 : (List.drop 0 (List.take 1 s)).length ≤ 1100 := by simp; omega
     have hd2 : (List.drop 1 (List.take s.length s)).length ≤ 1100 := by simp; omega
     refine l_move rfl rfl rfl ?_
     refine l_slices (l := 0) (h := 1) rfl rfl Tryz.underlying9 rfl rfl rfl (by first | rfl | (simp; done) | (simp; omega)) (by first | rfl | (simp; done) | (simp; omega)) (by omega) (by first | omega | (simp; omega) | (simp; done)) ?_
     refine l_adds rfl rfl rfl rfl (by first | omega | (simp only [List.length_append, List.length_cons, List.length_nil] at *; omega)) ?_
     refine l_move rfl rfl rfl ?_
     refine l_slices (l := 1) (h := s.length) rfl rfl Tryz.underlying9 rfl rfl rfl (by first | rfl | (simp; done) | (simp; omega)) (by first | rfl | (simp; done) | (simp; omega)) (by omega) (by first | omega | (simp; omega) | (simp; done)) ?_
     refine l_adds rfl rfl rfl rfl (by first | omega | (simp only [List.length_append, List.length_cons, List.length_nil] at *; omega)) ?_
     refine l_assign rfl rfl rfl (l_nil ?_)
     refine e_meetk (s.take 1 ++ [46] ++ s.drop 1) ?_ (.cons rfl (.cons rfl .nil)) ?_
     ·exact ⟨hw28, by unfold ptT; rw [show (1 : Int).toNat = 1 from rfl, if_pos (by omega)]; simp, by simp; omega⟩
     ·exact (.cons rfl (by first | rfl | simp) .nil)
    ·skip
     refine c_skip ?_
     refine e_meetk (s) ?_ (.cons rfl (.cons rfl .nil)) ?_
     ·exact ⟨hw27, by unfold ptT; rw [show (1 : Int).toNat = 1 from rfl, if_neg (by omega), List.take_of_length_le (by omega), List.append_nil], by omega⟩
     ·exact (.cons rfl (by first | rfl | simp) .nil)
   rintro s2 w29 ⟨hw29, hs2, hs3⟩
   show RunC P _ _ _ (_ :: _) _
   refine c_seq (c_region (l_move rfl rfl rfl (l_move rfl rfl rfl ?_)))
   refine l_adds rfl rfl rfl rfl (by first | omega | (simp only [List.length_append, List.length_cons, List.length_nil] at *; omega)) ?_
   refine l_adds rfl rfl rfl rfl (by first | omega | (simp only [List.length_append, List.length_cons, List.length_nil] at *; omega)) ?_
   refine l_move rfl rfl rfl ?_
   refine l_call rfl rfl Tryz.func30 rfl rfl (.cons rfl .nil) (number11 e2 (by omega) w29) ?_
   rintro _ w30 ⟨rfl, hG⟩
   have hw30 := hG _ _ _ _ hw29
   try clear hG hw29
   simp only [List.cons_append, List.nil_append] at hw30
   have hil := itoaT_len (n := e2) (by omega)
   refine l_adds rfl rfl rfl rfl (by first | omega | (simp only [List.length_append, List.length_cons, List.length_nil] at *; omega)) ?_
   refine v_tobytes hw30 rfl rfl Tryz.underlying9 Tryz.underlying24 Tryz.underlying5 rfl (fun v20_7 w31 hw31 => ?_)
   try clear hw30
   refine l_assign rfl rfl rfl (l_assign rfl rfl rfl (l_nil (e_then ?_)))
   refine c_keep [6, 7] (.cons rfl (.cons rfl .nil)) ?_
   refine c_ret ?_
   refine e_done2 Tryz.results17 rfl rfl ?_
   refine ⟨_, rfl, ?_⟩
   exact ⟨_, 0, _, rfl, ⟨by omega, fun h => absurd rfl h, fun _ => ⟨d, ptT s 1 ++ exT e2, hk, hltS, by rw [wdT_fin hfin, hGd, hs2]; unfold exT; simp, fun h => by rw [(hz3 h).1, (hz3 h).2], fun h1 h2 => hn3 h1⟩⟩, hw31.grows⟩
end Go.Proofs.YtojjlipcjdaejaaGreatDoor.W
