/- walks of power.above, below, Entry -/
import Derived.Test.YtggdkplphfofkaaGreatPa
set_option linter.unusedVariables false
set_option linter.unusedSimpArgs false
set_option maxRecDepth 10000
namespace Go.Proofs.YtggdkplphfofkaaGreat.W
open Go.Vc Go.RowKit
def abM (X : Int) : Int := if Ma.blen X < 128 then X * 2 ^ (128 - Ma.blen X).toNat else X / 2 ^ (Ma.blen X - 128).toNat
def blM (X : Int) : Int := 2 ^ (127 + Ma.blen X).toNat / X + 1
theorem abM_lt {X : Int} (h : 0 < X) : 0 ≤ abM X ∧ abM X < 340282366920938463463374607431768211456 := by
 have hb := (Ma.blen_le_iff (Int.le_of_lt h) (Ma.blen X).toNat).1 (by have := Ma.blen_nonneg X; omega)
 have hb0 := Ma.blen_nonneg X
 have e128 : (2 : Int) ^ 128 = 340282366920938463463374607431768211456 := by decide
 unfold abM
 split
 ·rename_i h1
  have hp := Ma.pow_pos (show (0 : Int) < 2 by omega) (128 - Ma.blen X).toNat
  have h2 : X * 2 ^ (128 - Ma.blen X).toNat < 2 ^ (Ma.blen X).toNat * 2 ^ (128 - Ma.blen X).toNat := Int.mul_lt_mul_of_pos_right hb hp
  rw [← Int.pow_add, show (Ma.blen X).toNat + (128 - Ma.blen X).toNat = 128 from by omega, e128] at h2
  exact ⟨Int.mul_nonneg (Int.le_of_lt h) (Int.le_of_lt hp), h2⟩
 ·rename_i h1
  have hp := Ma.pow_pos (show (0 : Int) < 2 by omega) (Ma.blen X - 128).toNat
  refine ⟨Int.ediv_nonneg (Int.le_of_lt h) (Int.le_of_lt hp), Int.ediv_lt_of_lt_mul hp ?_⟩
  rw [← e128, ← Int.pow_add, show 128 + (Ma.blen X - 128).toNat = (Ma.blen X).toNat from by omega]
  exact hb
def entS (q : Int) : Int × Int × Int := if q < -342 ∨ 308 < q then (0, 0, 60) else if q < 0 then (blM (5 ^ (-q).toNat), -(127 + Ma.blen (5 ^ (-q).toNat)), 0) else (abM (5 ^ q.toNat), Ma.blen (5 ^ q.toNat) - 128, 0)
theorem bl_fit : ∀ n : Fin 343, n.val = 0 ∨ blM (5 ^ n.val) < 340282366920938463463374607431768211456 := by decide +kernel
theorem five_pos (n : Nat) : (0 : Int) < 5 ^ n := Ma.pow_pos (by omega) n
theorem aboveP (v : Value) (ls : List Int) (X : Int) (hc : Ma.Cn 18446744073709551616 ls X) (hx : 0 < X) (hb : Ma.blen X ≤ 1203) (w : World) (hv : IV w v (ints .u64 ls)) :
  CallsV P 50 [v] w fun r w' => r = .tuple #[wideV (abM X), .int .i64 (Ma.blen X - 128)] ∧ Grow w w' [] := by
 refine enterW Tryz.func50 rfl Tryz.ntmps50 rfl ?_
 have hw0 := St.start w
 have hll := cn_len hc (k := 1203) hb
 have hbp := Ma.blen_pos hx
 have habl := abM_lt hx
 refine c_seq (c_region ?_)
 refine l_alloc hw0 ta67 rfl rfl (fun b0_0 w1 hw1 => ?_)
 try clear hw0
 refine l_assign rfl rfl rfl (l_nil (e_then ?_))
 refine c_keep [0, 2] (.cons rfl (.cons rfl .nil)) ?_
 refine c_seq (c_region (l_move rfl rfl rfl ?_))
 refine l_callp rfl rfl Tryz.func66 rfl rfl (.cons rfl .nil) (lenZ hc (by omega) (hw1.iarg hv)) ?_
 refine l_sub rfl rfl rfl rfl (w_i64 (by omega)) ?_
 refine l_assign rfl rfl rfl (l_nil (e_then ?_))
 refine c_keep [0, 2, 4] (.cons rfl (.cons rfl (.cons rfl .nil))) ?_
 refine c_seq (c_seq (c_region (l_move rfl rfl rfl ?_)))
 refine l_lss rfl rfl rfl rfl ?_
 refine l_nil (e_then ?_)
 refine c_keep [0, 2, 4, 14] (.cons rfl (.cons rfl (.cons rfl (.cons rfl .nil)))) ?_
 first | refine c_cond rfl (fun hc0 => ?_) (fun hc0 => ?_) | refine c_condb rfl (fun hc0 => ?_) (fun hc0 => ?_)
 ·skip
  refine c_seq (c_region (l_move rfl rfl rfl (l_move rfl rfl rfl ?_)))
  refine l_neg rfl rfl rfl (w_i64 (by omega)) ?_
  obtain ⟨k, hk⟩ : ∃ k : Nat, (128 - Ma.blen X).toNat = k := ⟨_, rfl⟩
  refine l_turn (s := 18) (v' := .int .i64 (k : Int)) rfl (by refine congrArg (Value.int _) ?_; omega) ?_
  have eab : abM X = X * 2 ^ k := by unfold abM; rw [if_pos (by omega), hk]
  refine l_call rfl rfl Tryz.func67 rfl rfl (.cons rfl (.cons rfl .nil)) (shlZ (k := k) hc hx (by omega) (by omega) (hw1.iarg hv)) ?_
  rintro _ w2 ⟨vm, lm, rfl, hm, hG⟩
  have hw2 := hG _ _ _ _ hw1
  try clear hG hw1
  simp only [List.cons_append, List.nil_append] at hw2
  refine l_move rfl rfl rfl (l_extract rfl rfl rfl rfl (l_extract rfl rfl rfl rfl (l_assign rfl rfl rfl (l_assign rfl rfl rfl (l_nil ?_)))))
  refine e_then ?_
  refine c_keep [2, 4, 5] (.cons rfl (.cons rfl (.cons rfl .nil))) ?_
  refine c_seq (c_region (l_move rfl rfl rfl ?_))
  refine l_call rfl rfl Tryz.func70 rfl rfl (.cons rfl .nil) (wordsP vm lm (cnU hm) (cn_len2 hm (by rw [← eab]; exact habl.2)) w2 (hw2.io mem0)) ?_
  rintro _ w3 ⟨rfl, hG⟩
  have hw3 := hG _ _ _ _ hw2
  try clear hG hw2
  simp only [List.cons_append, List.nil_append] at hw3
  refine l_move rfl rfl rfl ?_
  refine l_store_blks hw3 (.tail .head) (.zero (.zero .nil)) rfl tz67 rfl rfl (by first | (simp [Value.oneCell']; done) | (intro u hu; simp only [List.mem_cons, List.not_mem_nil, or_false] at hu; rcases hu with rfl | rfl <;> first | rfl | assumption)) (fun w4 hw4 => ?_)
  try clear hw3
  refine l_assign rfl rfl rfl (l_nil (e_then ?_))
  refine c_keep [2, 3] (.cons rfl (.cons rfl .nil)) ?_
  refine c_ret ?_
  refine e_then_ret ?_
  refine e_doneN Tryz.results50 (.cell rfl (load_agg_run hw4 mem1 Tryz.underlying67 rfl tz67 (.take (.take .nil))) (.tmp rfl .nil)) rfl ?_
  refine ⟨_, rfl, ?_⟩
  have hw5 := St.del (.tail .head) hw4
  try clear hw4
  have hw6 := St.del .head hw5
  try clear hw5
  exact ⟨by rw [show nv lm = abM X from hm.val.trans eab.symm], hw6.grows⟩
 ·skip
  refine c_skip (e_then ?_)
  refine c_keep [0, 2, 4] (.cons rfl (.cons rfl (.cons rfl .nil))) ?_
  refine c_seq (c_region (l_move rfl rfl rfl (l_move rfl rfl rfl ?_)))
  obtain ⟨k, hk⟩ : ∃ k : Nat, (Ma.blen X - 128).toNat = k := ⟨_, rfl⟩
  refine l_turn (s := 27) (v' := .int .i64 (k : Int)) rfl (by refine congrArg (Value.int _) ?_; omega) ?_
  have eab : abM X = X / 2 ^ k := by unfold abM; rw [if_neg (by omega), hk]
  refine l_call rfl rfl Tryz.func71 rfl rfl (.cons rfl (.cons rfl .nil)) (shrZ (k := k) hc (by omega) (by omega) (hw1.iarg hv)) ?_
  rintro _ w7 ⟨vm, lm, bm, rfl, hm, hG⟩
  have hw7 := hG _ _ _ _ hw1
  try clear hG hw1
  simp only [List.cons_append, List.nil_append] at hw7
  refine l_move rfl rfl rfl (l_extract rfl rfl rfl rfl (l_extract rfl rfl rfl rfl (l_extract rfl rfl rfl rfl (l_assign rfl rfl rfl (l_assign rfl rfl rfl ?_)))))
  refine l_assign rfl rfl rfl (l_nil (e_then ?_))
  refine c_keep [2, 4, 7] (.cons rfl (.cons rfl (.cons rfl .nil))) ?_
  refine c_seq (c_region (l_move rfl rfl rfl ?_))
  refine l_call rfl rfl Tryz.func70 rfl rfl (.cons rfl .nil) (wordsP vm lm (cnU hm) (cn_len2 hm (by rw [← eab]; exact habl.2)) w7 (hw7.io mem0)) ?_
  rintro _ w8 ⟨rfl, hG⟩
  have hw8 := hG _ _ _ _ hw7
  try clear hG hw7
  simp only [List.cons_append, List.nil_append] at hw8
  refine l_move rfl rfl rfl ?_
  refine l_store_blks hw8 (.tail .head) (.zero (.zero .nil)) rfl tz67 rfl rfl (by first | (simp [Value.oneCell']; done) | (intro u hu; simp only [List.mem_cons, List.not_mem_nil, or_false] at hu; rcases hu with rfl | rfl <;> first | rfl | assumption)) (fun w9 hw9 => ?_)
  try clear hw8
  refine l_assign rfl rfl rfl (l_nil (e_then ?_))
  refine c_keep [2, 3] (.cons rfl (.cons rfl .nil)) ?_
  refine c_ret ?_
  refine e_doneN Tryz.results50 (.cell rfl (load_agg_run hw9 mem1 Tryz.underlying67 rfl tz67 (.take (.take .nil))) (.tmp rfl .nil)) rfl ?_
  refine ⟨_, rfl, ?_⟩
  have hw10 := St.del (.tail .head) hw9
  try clear hw9
  have hw11 := St.del .head hw10
  try clear hw10
  exact ⟨by rw [show nv lm = abM X from hm.val.trans eab.symm], hw11.grows⟩
theorem belowP (v : Value) (ls : List Int) (X : Int) (hc : Ma.Cn 18446744073709551616 ls X) (hx : 0 < X) (hb : Ma.blen X ≤ 1203) (hfit : blM X < 340282366920938463463374607431768211456) (w : World) (hv : IV w v (ints .u64 ls)) :
  CallsV P 49 [v] w fun r w' => r = .tuple #[wideV (blM X), .int .i64 (-(127 + Ma.blen X))] ∧ Grow w w' [] := by
 refine enterW Tryz.func49 rfl Tryz.ntmps49 rfl ?_
 have hw0 := St.start w
 have hll := cn_len hc (k := 1203) hb
 have hbp := Ma.blen_pos hx
 refine c_seq (c_region ?_)
 refine l_alloc hw0 ta67 rfl rfl (fun b0_0 w1 hw1 => ?_)
 try clear hw0
 refine l_assign rfl rfl rfl (l_nil (e_then ?_))
 refine c_keep [0, 2] (.cons rfl (.cons rfl .nil)) ?_
 refine c_seq (c_region (l_move rfl rfl rfl ?_))
 refine l_callp rfl rfl Tryz.func66 rfl rfl (.cons rfl .nil) (lenZ hc (by omega) (hw1.iarg hv)) ?_
 refine l_add rfl rfl rfl rfl (w_i64 (by omega)) ?_
 refine l_assign rfl rfl rfl (l_nil (e_then ?_))
 refine c_keep [0, 2, 4] (.cons rfl (.cons rfl (.cons rfl .nil))) ?_
 refine c_seq (c_region ?_)
 refine v_lit hw1 rfl rfl Tryz.underlying117 ti65 rfl (.cons rfl (by first | rfl | assumption) .nil) rfl rfl rfl (fun b2_0 w2 hw2 => ?_)
 try clear hw1
 refine l_move rfl rfl rfl ?_
 obtain ⟨k, hk⟩ : ∃ k : Nat, (127 + Ma.blen X).toNat = k := ⟨_, rfl⟩
 refine l_turn (s := 15) (v' := .int .i64 (k : Int)) rfl (by refine congrArg (Value.int _) ?_; omega) ?_
 have eb : blM X = 2 ^ k / X + 1 := by unfold blM; rw [hk]
 have b2k : Ma.blen (2 ^ k) = k + 1 := Ma.blen_of (Int.le_refl _) (by rw [Int.pow_succ]; have := Ma.pow_pos (show (0 : Int) < 2 by omega) k; omega)
 have hp := Ma.pow_pos (show (0 : Int) < 2 by omega) k
 refine l_call rfl rfl Tryz.func67 rfl rfl (.cons rfl (.cons rfl .nil)) (shlZ (k := k) (Cnone (x := 1) (by omega)) (by omega) (by simp) (by rw [show Ma.blen 1 = 1 from by decide]; omega) (hw2.ibl mem0)) ?_
 rintro _ w3 ⟨vt, lt, rfl, ht, hG⟩
 have hw3 := hG _ _ _ _ hw2
 try clear hG hw2
 simp only [List.cons_append, List.nil_append] at hw3
 refine l_move rfl rfl rfl (l_extract rfl rfl rfl rfl (l_extract rfl rfl rfl rfl (l_assign rfl rfl rfl (l_assign rfl rfl rfl (l_nil ?_)))))
 refine e_then ?_
 refine c_keep [0, 2, 4, 5] (.cons rfl (.cons rfl (.cons rfl (.cons rfl .nil)))) ?_
 refine c_seq (c_region ?_)
 have llt := cn_len ht (k := 1400) (by rw [Int.one_mul, b2k]; omega)
 refine l_move rfl rfl rfl (l_move rfl rfl rfl ?_)
 refine l_call rfl rfl Tryz.func68 rfl rfl (.cons rfl (.cons rfl .nil)) (divZ ht hc (by omega) (by omega) (by rw [Int.one_mul, b2k]; omega) (by omega) (by omega) (hw3.io mem0) (hw3.iarg hv)) ?_
 rintro _ w4 ⟨vq, vr, lq, lr, rfl, hq, hr, hG⟩
 have hw4 := hG _ _ _ _ hw3
 try clear hG hw3
 simp only [List.cons_append, List.nil_append] at hw4
 refine l_move rfl rfl rfl (l_extract rfl rfl rfl rfl (l_extract rfl rfl rfl rfl (l_extract rfl rfl rfl rfl (l_assign rfl rfl rfl (l_assign rfl rfl rfl ?_)))))
 refine l_assign rfl rfl rfl (l_nil (e_then ?_))
 refine c_keep [2, 4, 7] (.cons rfl (.cons rfl (.cons rfl .nil))) ?_
 refine c_seq (c_region ?_)
 have evq : nv lq = 2 ^ k / X := by have := hq.val; rwa [Int.one_mul] at this
 have hqn : 0 ≤ 2 ^ k / X := Int.ediv_nonneg (Int.le_of_lt hp) (Int.le_of_lt hx)
 have hb2 := Ma.blen_mono (a := 2 ^ k / X) (b := 2 ^ 128) hqn (by rw [show (2 : Int) ^ 128 = 340282366920938463463374607431768211456 from by decide]; omega)
 have hb3 := Ma.blen_mono (a := 2 ^ k / X + 1) (b := 2 ^ 128) (by omega) (by rw [show (2 : Int) ^ 128 = 340282366920938463463374607431768211456 from by decide]; omega)
 rw [show Ma.blen (2 ^ 128) = 129 from by decide +kernel] at hb2 hb3
 have llq := cn_len hq (k := 1400) (by rw [Int.one_mul]; omega)
 refine l_move rfl rfl rfl ?_
 refine v_lit hw4 rfl rfl Tryz.underlying117 ti65 rfl (.cons rfl (by first | rfl | assumption) .nil) rfl rfl rfl (fun b4_1 w5 hw5 => ?_)
 try clear hw4
 refine l_call rfl rfl Tryz.func69 rfl rfl (.cons rfl (.cons rfl .nil)) (addS (cnU hq) (Uone (x := 1) (by omega)) (by omega) (by simp) (by rw [evq]; omega) (by rw [nvone]; decide) (by rw [evq, nvone]; omega) (hw5.io mem1) (hw5.ibl mem0)) ?_
 rintro _ w6 ⟨vs, ls2, rfl, hs, hG⟩
 have hw6 := hG _ _ _ _ hw5
 try clear hG hw5
 simp only [List.cons_append, List.nil_append] at hw6
 refine l_move rfl rfl rfl (l_extract rfl rfl rfl rfl (l_extract rfl rfl rfl rfl (l_assign rfl rfl rfl (l_nil (e_then ?_)))))
 refine c_keep [2, 4, 7] (.cons rfl (.cons rfl (.cons rfl .nil))) ?_
 refine c_seq (c_region (l_move rfl rfl rfl ?_))
 refine l_call rfl rfl Tryz.func70 rfl rfl (.cons rfl .nil) (wordsP vs ls2 (cnU hs) (cn_len2 hs (by rw [evq, nvone, ← eb]; exact hfit)) w6 (hw6.io mem0)) ?_
 rintro _ w7 ⟨rfl, hG⟩
 have hw7 := hG _ _ _ _ hw6
 try clear hG hw6
 simp only [List.cons_append, List.nil_append] at hw7
 refine l_move rfl rfl rfl ?_
 refine l_neg rfl rfl rfl (w_i64 (by omega)) ?_
 refine l_store_blks hw7 (.tail (.tail (.tail (.tail (.tail (.tail .head)))))) (.zero (.zero .nil)) rfl tz67 rfl rfl (by first | (simp [Value.oneCell']; done) | (intro u hu; simp only [List.mem_cons, List.not_mem_nil, or_false] at hu; rcases hu with rfl | rfl <;> first | rfl | assumption)) (fun w8 hw8 => ?_)
 try clear hw7
 refine l_assign rfl rfl rfl (l_nil (e_then ?_))
 refine c_keep [2, 3] (.cons rfl (.cons rfl .nil)) ?_
 refine c_ret ?_
 refine e_doneN Tryz.results49 (.cell rfl (load_agg_run hw8 mem6 Tryz.underlying67 rfl tz67 (.take (.take .nil))) (.tmp rfl .nil)) rfl ?_
 refine ⟨_, rfl, ?_⟩
 have hw9 := St.del (.tail (.tail (.tail (.tail (.tail (.tail .head)))))) hw8
 try clear hw8
 have hw10 := St.del (.tail (.tail (.tail (.tail (.tail .head))))) hw9
 try clear hw9
 have hw11 := St.del (.tail (.tail (.tail (.tail .head)))) hw10
 try clear hw10
 have hw12 := St.del (.tail (.tail (.tail .head))) hw11
 try clear hw11
 have hw13 := St.del (.tail (.tail .head)) hw12
 try clear hw12
 have hw14 := St.del (.tail .head) hw13
 try clear hw13
 have hw15 := St.del .head hw14
 try clear hw14
 exact ⟨by rw [show nv ls2 = blM X from hs.val.trans (by rw [evq, nvone, eb]), Int.zero_sub], hw15.grows⟩
end Go.Proofs.YtggdkplphfofkaaGreat.W
