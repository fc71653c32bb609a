/- walks of power.above, below, Entry -/
import Derived.Test.YtellpcjmpmcpoaaPa
set_option linter.unusedVariables false
set_option linter.unusedSimpArgs false
set_option maxRecDepth 10000
namespace Go.Proofs.Ytellpcjmpmcpoaa.W
open Go.Vc Go.RowKit

def abM (X : Int) : Int := if Ma.blen X < 128 then X * 2 ^ (128 - Ma.blen X).toNat else X / 2 ^ (Ma.blen X - 128).toNat
def blM (X : Int) : Int := 2 ^ (127 + Ma.blen X).toNat / X + 1
theorem abM_lt {X : Int} (h : 0 < X) : 0 ≤ abM X ∧ abM X < 340282366920938463463374607431768211456 := by
  have hb := (Ma.blen_le_iff (Int.le_of_lt h) (Ma.blen X).toNat).1 (by have := Ma.blen_nonneg X; omega)
  have hb0 := Ma.blen_nonneg X
  have e128 : (2 : Int) ^ 128 = 340282366920938463463374607431768211456 := by decide
  unfold abM
  split
  · rename_i h1
    have hp := Ma.pow_pos (show (0 : Int) < 2 by omega) (128 - Ma.blen X).toNat
    have h2 : X * 2 ^ (128 - Ma.blen X).toNat < 2 ^ (Ma.blen X).toNat * 2 ^ (128 - Ma.blen X).toNat := Int.mul_lt_mul_of_pos_right hb hp
    rw [← Int.pow_add, show (Ma.blen X).toNat + (128 - Ma.blen X).toNat = 128 from by omega, e128] at h2
    exact ⟨Int.mul_nonneg (Int.le_of_lt h) (Int.le_of_lt hp), h2⟩
  · rename_i h1
    have hp := Ma.pow_pos (show (0 : Int) < 2 by omega) (Ma.blen X - 128).toNat
    refine ⟨Int.ediv_nonneg (Int.le_of_lt h) (Int.le_of_lt hp), Int.ediv_lt_of_lt_mul hp ?_⟩
    rw [← e128, ← Int.pow_add, show 128 + (Ma.blen X - 128).toNat = (Ma.blen X).toNat from by omega]
    exact hb
/-- an exponent's entry: the number, the exponent, the error -/
def entS (q : Int) : Int × Int × Int := if q < -342 ∨ 308 < q then (0, 0, 60) else if q < 0 then (blM (5 ^ (-q).toNat), -(127 + Ma.blen (5 ^ (-q).toNat)), 0) else (abM (5 ^ q.toNat), Ma.blen (5 ^ q.toNat) - 128, 0)
theorem bl_fit : ∀ n : Fin 343, n.val = 0 ∨ blM (5 ^ n.val) < 340282366920938463463374607431768211456 := by decide +kernel
theorem five_pos (n : Nat) : (0 : Int) < 5 ^ n := Ma.pow_pos (by omega) n

theorem aboveP (v : Value) (ls : List Int) (X : Int) (hc : Ma.Cn 18446744073709551616 ls X) (hx : 0 < X) (hb : Ma.blen X ≤ 1203) (w : World) (hv : IV w v (ints .u64 ls)) :
    CallsV P 29 [v] w fun r w' => r = .tuple #[wideV (abM X), .int .i64 (Ma.blen X - 128)] ∧ Grow w w' [] := by
  refine enterW Try.func29 rfl Try.ntmps29 rfl ?_
  have hw0 := St.start w
  have hll := cn_len hc (k := 1203) hb
  have hbp := Ma.blen_pos hx
  have habl := abM_lt hx
  refine c_seq ?_
  refine c_region ?_
  refine l_alloc hw0 ta24 rfl rfl (fun b0_0 w1 hw1 => ?_)
  try clear hw0
  refine l_assign rfl rfl rfl ?_
  refine l_nil ?_
  refine e_then ?_
  refine c_keep [0, 2] (.cons rfl (.cons rfl .nil)) ?_
  refine c_seq ?_
  refine c_region ?_
  refine l_move rfl rfl rfl ?_
  refine l_callp rfl rfl Try.func37 rfl rfl (.cons rfl .nil) (lenZ hc (by omega) (hw1.iarg hv)) ?_
  refine l_sub rfl rfl rfl rfl (w_i64 (by omega)) ?_
  refine l_assign rfl rfl rfl ?_
  refine l_nil ?_
  refine e_then ?_
  refine c_keep [0, 2, 4] (.cons rfl (.cons rfl (.cons rfl .nil))) ?_
  refine c_seq ?_
  refine c_seq ?_
  refine c_region ?_
  refine l_move rfl rfl rfl ?_
  refine l_lss rfl rfl rfl rfl ?_
  refine l_nil ?_
  refine e_then ?_
  refine c_keep [0, 2, 4, 14] (.cons rfl (.cons rfl (.cons rfl (.cons rfl .nil)))) ?_
  first | refine c_cond rfl (fun hc0 => ?_) (fun hc0 => ?_) | refine c_condb rfl (fun hc0 => ?_) (fun hc0 => ?_)
  · skip
    refine c_seq ?_
    refine c_region ?_
    refine l_move rfl rfl rfl ?_
    refine l_move rfl rfl rfl ?_
    refine l_neg rfl rfl rfl (w_i64 (by omega)) ?_
    obtain ⟨k, hk⟩ : ∃ k : Nat, (128 - Ma.blen X).toNat = k := ⟨_, rfl⟩
    refine l_turn (s := 18) (v' := .int .i64 (k : Int)) rfl (by refine congrArg (Value.int _) ?_; omega) ?_
    have eab : abM X = X * 2 ^ k := by unfold abM; rw [if_pos (by omega), hk]
    refine l_call rfl rfl Try.func38 rfl rfl (.cons rfl (.cons rfl .nil)) (shlZ (k := k) hc hx (by omega) (by omega) (hw1.iarg hv)) ?_
    rintro _ w2 ⟨vm, lm, rfl, hm, hG⟩
    have hw2 := hG _ _ _ _ hw1
    try clear hG hw1
    simp only [List.cons_append, List.nil_append] at hw2
    refine l_move rfl rfl rfl ?_
    refine l_extract rfl rfl rfl rfl ?_
    refine l_extract rfl rfl rfl rfl ?_
    refine l_assign rfl rfl rfl ?_
    refine l_assign rfl rfl rfl ?_
    refine l_nil ?_
    refine e_then ?_
    refine c_keep [2, 4, 5] (.cons rfl (.cons rfl (.cons rfl .nil))) ?_
    refine c_seq ?_
    refine c_region ?_
    refine l_move rfl rfl rfl ?_
    refine l_call rfl rfl Try.func41 rfl rfl (.cons rfl .nil) (wordsP vm lm (cnU hm) (cn_len2 hm (by rw [← eab]; exact habl.2)) w2 (hw2.io mem0)) ?_
    rintro _ w3 ⟨rfl, hG⟩
    have hw3 := hG _ _ _ _ hw2
    try clear hG hw2
    simp only [List.cons_append, List.nil_append] at hw3
    refine l_move rfl rfl rfl ?_
    refine l_store_blks hw3 (.tail .head) (.zero (.zero .nil)) rfl tz24 rfl rfl (by first | (simp [Value.oneCell']; done) | (intro u hu; simp only [List.mem_cons, List.not_mem_nil, or_false] at hu; rcases hu with rfl | rfl <;> first | rfl | assumption)) (fun w4 hw4 => ?_)
    try clear hw3
    refine l_assign rfl rfl rfl ?_
    refine l_nil ?_
    refine e_then ?_
    refine c_keep [2, 3] (.cons rfl (.cons rfl .nil)) ?_
    refine c_ret ?_
    refine e_then_ret ?_
    refine e_doneN Try.results29 (.cell rfl (load_agg_run hw4 mem1 Try.underlying24 rfl tz24 (.take (.take .nil))) (.tmp rfl .nil)) rfl ?_
    refine ⟨_, rfl, ?_⟩
    have hw5 := St.del (.tail .head) hw4
    try clear hw4
    have hw6 := St.del .head hw5
    try clear hw5
    exact ⟨by rw [show nv lm = abM X from hm.val.trans eab.symm], hw6.grows⟩
  · skip
    refine c_skip ?_
    refine e_then ?_
    refine c_keep [0, 2, 4] (.cons rfl (.cons rfl (.cons rfl .nil))) ?_
    refine c_seq ?_
    refine c_region ?_
    refine l_move rfl rfl rfl ?_
    refine l_move rfl rfl rfl ?_
    obtain ⟨k, hk⟩ : ∃ k : Nat, (Ma.blen X - 128).toNat = k := ⟨_, rfl⟩
    refine l_turn (s := 27) (v' := .int .i64 (k : Int)) rfl (by refine congrArg (Value.int _) ?_; omega) ?_
    have eab : abM X = X / 2 ^ k := by unfold abM; rw [if_neg (by omega), hk]
    refine l_call rfl rfl Try.func45 rfl rfl (.cons rfl (.cons rfl .nil)) (shrZ (k := k) hc (by omega) (by omega) (hw1.iarg hv)) ?_
    rintro _ w7 ⟨vm, lm, bm, rfl, hm, hG⟩
    have hw7 := hG _ _ _ _ hw1
    try clear hG hw1
    simp only [List.cons_append, List.nil_append] at hw7
    refine l_move rfl rfl rfl ?_
    refine l_extract rfl rfl rfl rfl ?_
    refine l_extract rfl rfl rfl rfl ?_
    refine l_extract rfl rfl rfl rfl ?_
    refine l_assign rfl rfl rfl ?_
    refine l_assign rfl rfl rfl ?_
    refine l_assign rfl rfl rfl ?_
    refine l_nil ?_
    refine e_then ?_
    refine c_keep [2, 4, 7] (.cons rfl (.cons rfl (.cons rfl .nil))) ?_
    refine c_seq ?_
    refine c_region ?_
    refine l_move rfl rfl rfl ?_
    refine l_call rfl rfl Try.func41 rfl rfl (.cons rfl .nil) (wordsP vm lm (cnU hm) (cn_len2 hm (by rw [← eab]; exact habl.2)) w7 (hw7.io mem0)) ?_
    rintro _ w8 ⟨rfl, hG⟩
    have hw8 := hG _ _ _ _ hw7
    try clear hG hw7
    simp only [List.cons_append, List.nil_append] at hw8
    refine l_move rfl rfl rfl ?_
    refine l_store_blks hw8 (.tail .head) (.zero (.zero .nil)) rfl tz24 rfl rfl (by first | (simp [Value.oneCell']; done) | (intro u hu; simp only [List.mem_cons, List.not_mem_nil, or_false] at hu; rcases hu with rfl | rfl <;> first | rfl | assumption)) (fun w9 hw9 => ?_)
    try clear hw8
    refine l_assign rfl rfl rfl ?_
    refine l_nil ?_
    refine e_then ?_
    refine c_keep [2, 3] (.cons rfl (.cons rfl .nil)) ?_
    refine c_ret ?_
    refine e_doneN Try.results29 (.cell rfl (load_agg_run hw9 mem1 Try.underlying24 rfl tz24 (.take (.take .nil))) (.tmp rfl .nil)) rfl ?_
    refine ⟨_, rfl, ?_⟩
    have hw10 := St.del (.tail .head) hw9
    try clear hw9
    have hw11 := St.del .head hw10
    try clear hw10
    exact ⟨by rw [show nv lm = abM X from hm.val.trans eab.symm], hw11.grows⟩
theorem belowP (v : Value) (ls : List Int) (X : Int) (hc : Ma.Cn 18446744073709551616 ls X) (hx : 0 < X) (hb : Ma.blen X ≤ 1203) (hfit : blM X < 340282366920938463463374607431768211456) (w : World) (hv : IV w v (ints .u64 ls)) :
    CallsV P 27 [v] w fun r w' => r = .tuple #[wideV (blM X), .int .i64 (-(127 + Ma.blen X))] ∧ Grow w w' [] := by
  refine enterW Try.func27 rfl Try.ntmps27 rfl ?_
  have hw0 := St.start w
  have hll := cn_len hc (k := 1203) hb
  have hbp := Ma.blen_pos hx
  refine c_seq ?_
  refine c_region ?_
  refine l_alloc hw0 ta24 rfl rfl (fun b0_0 w1 hw1 => ?_)
  try clear hw0
  refine l_assign rfl rfl rfl ?_
  refine l_nil ?_
  refine e_then ?_
  refine c_keep [0, 2] (.cons rfl (.cons rfl .nil)) ?_
  refine c_seq ?_
  refine c_region ?_
  refine l_move rfl rfl rfl ?_
  refine l_callp rfl rfl Try.func37 rfl rfl (.cons rfl .nil) (lenZ hc (by omega) (hw1.iarg hv)) ?_
  refine l_add rfl rfl rfl rfl (w_i64 (by omega)) ?_
  refine l_assign rfl rfl rfl ?_
  refine l_nil ?_
  refine e_then ?_
  refine c_keep [0, 2, 4] (.cons rfl (.cons rfl (.cons rfl .nil))) ?_
  refine c_seq ?_
  refine c_region ?_
  refine v_lit hw1 rfl rfl Try.underlying50 ti22 rfl (.cons rfl (by first | rfl | assumption) .nil) rfl rfl rfl (fun b2_0 w2 hw2 => ?_)
  try clear hw1
  refine l_move rfl rfl rfl ?_
  obtain ⟨k, hk⟩ : ∃ k : Nat, (127 + Ma.blen X).toNat = k := ⟨_, rfl⟩
  refine l_turn (s := 15) (v' := .int .i64 (k : Int)) rfl (by refine congrArg (Value.int _) ?_; omega) ?_
  have eb : blM X = 2 ^ k / X + 1 := by unfold blM; rw [hk]
  have b2k : Ma.blen (2 ^ k) = k + 1 := Ma.blen_of (Int.le_refl _) (by rw [Int.pow_succ]; have := Ma.pow_pos (show (0 : Int) < 2 by omega) k; omega)
  have hp := Ma.pow_pos (show (0 : Int) < 2 by omega) k
  refine l_call rfl rfl Try.func38 rfl rfl (.cons rfl (.cons rfl .nil)) (shlZ (k := k) (Cnone (x := 1) (by omega)) (by omega) (by simp) (by rw [show Ma.blen 1 = 1 from by decide]; omega) (hw2.ibl mem0)) ?_
  rintro _ w3 ⟨vt, lt, rfl, ht, hG⟩
  have hw3 := hG _ _ _ _ hw2
  try clear hG hw2
  simp only [List.cons_append, List.nil_append] at hw3
  refine l_move rfl rfl rfl ?_
  refine l_extract rfl rfl rfl rfl ?_
  refine l_extract rfl rfl rfl rfl ?_
  refine l_assign rfl rfl rfl ?_
  refine l_assign rfl rfl rfl ?_
  refine l_nil ?_
  refine e_then ?_
  refine c_keep [0, 2, 4, 5] (.cons rfl (.cons rfl (.cons rfl (.cons rfl .nil)))) ?_
  refine c_seq ?_
  refine c_region ?_
  have llt := cn_len ht (k := 1400) (by rw [Int.one_mul, b2k]; omega)
  refine l_move rfl rfl rfl ?_
  refine l_move rfl rfl rfl ?_
  refine l_call rfl rfl Try.func39 rfl rfl (.cons rfl (.cons rfl .nil)) (divZ ht hc (by omega) (by omega) (by rw [Int.one_mul, b2k]; omega) (by omega) (by omega) (hw3.io mem0) (hw3.iarg hv)) ?_
  rintro _ w4 ⟨vq, vr, lq, lr, rfl, hq, hr, hG⟩
  have hw4 := hG _ _ _ _ hw3
  try clear hG hw3
  simp only [List.cons_append, List.nil_append] at hw4
  refine l_move rfl rfl rfl ?_
  refine l_extract rfl rfl rfl rfl ?_
  refine l_extract rfl rfl rfl rfl ?_
  refine l_extract rfl rfl rfl rfl ?_
  refine l_assign rfl rfl rfl ?_
  refine l_assign rfl rfl rfl ?_
  refine l_assign rfl rfl rfl ?_
  refine l_nil ?_
  refine e_then ?_
  refine c_keep [2, 4, 7] (.cons rfl (.cons rfl (.cons rfl .nil))) ?_
  refine c_seq ?_
  refine c_region ?_
  have evq : nv lq = 2 ^ k / X := by have := hq.val; rwa [Int.one_mul] at this
  have hqn : 0 ≤ 2 ^ k / X := Int.ediv_nonneg (Int.le_of_lt hp) (Int.le_of_lt hx)
  have hb2 := Ma.blen_mono (a := 2 ^ k / X) (b := 2 ^ 128) hqn (by rw [show (2 : Int) ^ 128 = 340282366920938463463374607431768211456 from by decide]; omega)
  have hb3 := Ma.blen_mono (a := 2 ^ k / X + 1) (b := 2 ^ 128) (by omega) (by rw [show (2 : Int) ^ 128 = 340282366920938463463374607431768211456 from by decide]; omega)
  rw [show Ma.blen (2 ^ 128) = 129 from by decide +kernel] at hb2 hb3
  have llq := cn_len hq (k := 1400) (by rw [Int.one_mul]; omega)
  refine l_move rfl rfl rfl ?_
  refine v_lit hw4 rfl rfl Try.underlying50 ti22 rfl (.cons rfl (by first | rfl | assumption) .nil) rfl rfl rfl (fun b4_1 w5 hw5 => ?_)
  try clear hw4
  refine l_call rfl rfl Try.func40 rfl rfl (.cons rfl (.cons rfl .nil)) (addS (cnU hq) (Uone (x := 1) (by omega)) (by omega) (by simp) (by rw [evq]; omega) (by rw [nvone]; decide) (by rw [evq, nvone]; omega) (hw5.io mem1) (hw5.ibl mem0)) ?_
  rintro _ w6 ⟨vs, ls2, rfl, hs, hG⟩
  have hw6 := hG _ _ _ _ hw5
  try clear hG hw5
  simp only [List.cons_append, List.nil_append] at hw6
  refine l_move rfl rfl rfl ?_
  refine l_extract rfl rfl rfl rfl ?_
  refine l_extract rfl rfl rfl rfl ?_
  refine l_assign rfl rfl rfl ?_
  refine l_nil ?_
  refine e_then ?_
  refine c_keep [2, 4, 7] (.cons rfl (.cons rfl (.cons rfl .nil))) ?_
  refine c_seq ?_
  refine c_region ?_
  refine l_move rfl rfl rfl ?_
  refine l_call rfl rfl Try.func41 rfl rfl (.cons rfl .nil) (wordsP vs ls2 (cnU hs) (cn_len2 hs (by rw [evq, nvone, ← eb]; exact hfit)) w6 (hw6.io mem0)) ?_
  rintro _ w7 ⟨rfl, hG⟩
  have hw7 := hG _ _ _ _ hw6
  try clear hG hw6
  simp only [List.cons_append, List.nil_append] at hw7
  refine l_move rfl rfl rfl ?_
  refine l_neg rfl rfl rfl (w_i64 (by omega)) ?_
  refine l_store_blks hw7 (.tail (.tail (.tail (.tail (.tail (.tail .head)))))) (.zero (.zero .nil)) rfl tz24 rfl rfl (by first | (simp [Value.oneCell']; done) | (intro u hu; simp only [List.mem_cons, List.not_mem_nil, or_false] at hu; rcases hu with rfl | rfl <;> first | rfl | assumption)) (fun w8 hw8 => ?_)
  try clear hw7
  refine l_assign rfl rfl rfl ?_
  refine l_nil ?_
  refine e_then ?_
  refine c_keep [2, 3] (.cons rfl (.cons rfl .nil)) ?_
  refine c_ret ?_
  refine e_doneN Try.results27 (.cell rfl (load_agg_run hw8 mem6 Try.underlying24 rfl tz24 (.take (.take .nil))) (.tmp rfl .nil)) rfl ?_
  refine ⟨_, rfl, ?_⟩
  have hw9 := St.del (.tail (.tail (.tail (.tail (.tail (.tail .head)))))) hw8
  try clear hw8
  have hw10 := St.del (.tail (.tail (.tail (.tail (.tail .head))))) hw9
  try clear hw9
  have hw11 := St.del (.tail (.tail (.tail (.tail .head)))) hw10
  try clear hw10
  have hw12 := St.del (.tail (.tail (.tail .head))) hw11
  try clear hw11
  have hw13 := St.del (.tail (.tail .head)) hw12
  try clear hw12
  have hw14 := St.del (.tail .head) hw13
  try clear hw13
  have hw15 := St.del .head hw14
  try clear hw14
  exact ⟨by rw [show nv ls2 = blM X from hs.val.trans (by rw [evq, nvone, eb]), Int.zero_sub], hw15.grows⟩
theorem entryP (q : Int) (hq : -9223372036854775808 ≤ q ∧ q ≤ 9223372036854775807) (w : World) :
    CallsV P 9 [.int .i64 q] w fun r w' => r = .tuple #[wideV (entS q).1, .int .i64 (entS q).2.1, .int .i64 (entS q).2.2] ∧ Grow w w' [] := by
  refine enterW Try.func9 rfl Try.ntmps9 rfl ?_
  have hw0 := St.start w
  refine c_seq ?_
  refine c_region ?_
  refine l_alloc hw0 ta24 rfl rfl (fun b0_0 w1 hw1 => ?_)
  try clear hw0
  refine l_assign rfl rfl rfl ?_
  refine l_assign rfl rfl rfl ?_
  refine l_nil ?_
  refine e_then ?_
  refine c_keep [0, 2] (.cons rfl (.cons rfl .nil)) ?_
  refine c_seq ?_
  refine c_seq ?_
  refine c_region ?_
  refine l_move rfl rfl rfl ?_
  refine l_lss rfl rfl rfl rfl ?_
  refine l_move rfl rfl rfl ?_
  apply l_or 2 [0, 2] rfl rfl (.cons rfl (.cons rfl (.cons rfl .nil))) rfl rfl (fun _ => rfl) rfl rfl rfl
  · intro hg1_3
    refine l_move rfl rfl rfl ?_
    refine l_gtr rfl rfl rfl rfl ?_
    refine l_nil ?_
    exact e_stays rfl (.cons rfl (congrArg Value.bool (decide_eq_false hg1_3).symm) (.cons rfl rfl (.cons rfl rfl .nil)))
  refine l_nil ?_
  refine e_then ?_
  refine c_keep [0, 2, 10] (.cons rfl (.cons rfl (.cons rfl .nil))) ?_
  first | refine c_cond rfl (fun hc0 => ?_) (fun hc0 => ?_) | refine c_condb rfl (fun hc0 => ?_) (fun hc0 => ?_)
  · skip
    refine c_seq ?_
    refine c_region ?_
    refine l_load_agg hw1 mem0 rfl rfl Try.underlying24 rfl tz24 rfl (.take (.take .nil)) ?_
    refine l_store_blks hw1 .head (.zero (.zero .nil)) rfl tz24 rfl rfl (by first | (simp [Value.oneCell']; done) | (intro u hu; simp only [List.mem_cons, List.not_mem_nil, or_false] at hu; rcases hu with rfl | rfl <;> first | rfl | assumption)) (fun w2 hw2 => ?_)
    try clear hw1
    refine l_assign rfl rfl rfl ?_
    refine l_assign rfl rfl rfl ?_
    refine l_nil ?_
    refine e_then ?_
    refine c_keep [2, 3, 4] (.cons rfl (.cons rfl (.cons rfl .nil))) ?_
    refine c_ret ?_
    refine e_then_ret ?_
    refine e_doneN Try.results9 (.cell rfl (load_agg_run hw2 mem0 Try.underlying24 rfl tz24 (.take (.take .nil))) (.tmp rfl (.tmp rfl .nil))) rfl ?_
    refine ⟨_, rfl, ?_⟩
    have hw3 := St.del .head hw2
    try clear hw2
    have e : entS q = (0, 0, 60) := if_pos hc0
    rw [e]
    exact ⟨rfl, hw3.grows⟩
  · skip
    refine c_skip ?_
    refine e_then ?_
    refine c_keep [0, 2] (.cons rfl (.cons rfl .nil)) ?_
    refine c_cutk (ι := Int × Int) (fun (z0 : Int × Int) (w' : World) => match z0 with | ⟨M, E⟩ => St w w.heap.size None' ([As.blk b0_0 24 [.int .u64 (M / 18446744073709551616), .int .u64 (M % 18446744073709551616)]]) w' ∧ entS q = (M, E, 0)) (fun (z0 : Int × Int) => match z0 with | ⟨M, E⟩ => [(3, .int .i64 E)]) [2] (.cons rfl .nil) ?_ ?_
    · skip
      refine c_seq ?_
      refine c_region ?_
      refine l_move rfl rfl rfl ?_
      refine l_lss rfl rfl rfl rfl ?_
      refine l_nil ?_
      refine e_then ?_
      refine c_keep [0, 2, 13] (.cons rfl (.cons rfl (.cons rfl .nil))) ?_
      first | refine c_cond rfl (fun hc1 => ?_) (fun hc1 => ?_) | refine c_condb rfl (fun hc1 => ?_) (fun hc1 => ?_)
      · skip
        refine c_region ?_
        refine l_move rfl rfl rfl ?_
        refine l_neg rfl rfl rfl (w_i64 (by omega)) ?_
        obtain ⟨n, hn⟩ : ∃ n : Nat, (-q).toNat = n := ⟨_, rfl⟩
        refine l_turn (s := 16) (v' := .int .i64 (n : Int)) rfl (by refine congrArg (Value.int _) ?_; omega) ?_
        have een : entS q = (blM (5 ^ n), -(127 + Ma.blen (5 ^ n)), 0) := by unfold entS; rw [if_neg (by omega), if_pos hc1, hn]
        refine l_call rfl rfl Try.func28 rfl rfl (.cons rfl .nil) (powersP n (by omega) w1) ?_
        rintro _ w4 ⟨b, vl, ls, rfl, hcn, hG⟩
        have hw4 := hG _ _ _ _ hw1
        try clear hG hw1
        simp only [List.cons_append, List.nil_append] at hw4
        refine l_callv rfl rfl rfl Try.func43 rfl rfl .nil (nextP b vl ls n (by omega) hcn w4 (St.rows (τ := [As.blk b 50 [vl], As.ri 22 .u64 vl ls]) (σ := _) hw4)) ?_
        rintro _ w5 ⟨rfl, vm, lm, hm, hX⟩
        have hw5 := hX _ _ _ _ hw4
        simp only [List.cons_append, List.nil_append] at hw5
        try clear hX hw4
        refine l_call rfl rfl Try.func27 rfl rfl (.cons rfl .nil) (belowP vl ls (5 ^ n) hcn (five_pos n) (by have := five_blen n (by omega); omega) ((bl_fit ⟨n, by omega⟩).resolve_left (by show ¬ n = 0; omega)) w5 (hw5.io mem2)) ?_
        rintro _ w6 ⟨rfl, hG⟩
        have hw6 := hG _ _ _ _ hw5
        try clear hG hw5
        simp only [List.cons_append, List.nil_append] at hw6
        refine l_move rfl rfl rfl ?_
        refine l_extract rfl rfl rfl rfl ?_
        refine l_extract rfl rfl rfl rfl ?_
        refine l_store_blks hw6 (.tail (.tail (.tail .head))) (.zero (.zero .nil)) rfl tz24 rfl rfl (by first | (simp [Value.oneCell']; done) | (intro u hu; simp only [List.mem_cons, List.not_mem_nil, or_false] at hu; rcases hu with rfl | rfl <;> first | rfl | assumption)) (fun w7 hw7 => ?_)
        try clear hw6
        refine l_assign rfl rfl rfl ?_
        refine l_nil ?_
        have hw8 := St.del (.tail (.tail .head)) hw7
        try clear hw7
        have hw9 := St.del (.tail .head) hw8
        try clear hw8
        have hw10 := St.del .head hw9
        try clear hw9
        refine e_meetk (blM (5 ^ n), -(127 + Ma.blen (5 ^ n))) ?_ (.cons rfl .nil) ?_
        · exact ⟨hw10, een⟩
        · exact (.cons rfl (by first | rfl | (refine congrArg (Value.int _) ?_; omega)) .nil)
      · skip
        refine c_region ?_
        refine l_move rfl rfl rfl ?_
        obtain ⟨n, hn⟩ : ∃ n : Nat, q.toNat = n := ⟨_, rfl⟩
        refine l_turn (s := 23) (v' := .int .i64 (n : Int)) rfl (by refine congrArg (Value.int _) ?_; omega) ?_
        have een : entS q = (abM (5 ^ n), Ma.blen (5 ^ n) - 128, 0) := by unfold entS; rw [if_neg (by omega), if_neg hc1, hn]
        refine l_call rfl rfl Try.func28 rfl rfl (.cons rfl .nil) (powersP n (by omega) w1) ?_
        rintro _ w11 ⟨b, vl, ls, rfl, hcn, hG⟩
        have hw11 := hG _ _ _ _ hw1
        try clear hG hw1
        simp only [List.cons_append, List.nil_append] at hw11
        refine l_callv rfl rfl rfl Try.func43 rfl rfl .nil (nextP b vl ls n (by omega) hcn w11 (St.rows (τ := [As.blk b 50 [vl], As.ri 22 .u64 vl ls]) (σ := _) hw11)) ?_
        rintro _ w12 ⟨rfl, vm, lm, hm, hX⟩
        have hw12 := hX _ _ _ _ hw11
        simp only [List.cons_append, List.nil_append] at hw12
        try clear hX hw11
        refine l_call rfl rfl Try.func29 rfl rfl (.cons rfl .nil) (aboveP vl ls (5 ^ n) hcn (five_pos n) (by have := five_blen n (by omega); omega) w12 (hw12.io mem2)) ?_
        rintro _ w13 ⟨rfl, hG⟩
        have hw13 := hG _ _ _ _ hw12
        try clear hG hw12
        simp only [List.cons_append, List.nil_append] at hw13
        refine l_move rfl rfl rfl ?_
        refine l_extract rfl rfl rfl rfl ?_
        refine l_extract rfl rfl rfl rfl ?_
        refine l_store_blks hw13 (.tail (.tail (.tail .head))) (.zero (.zero .nil)) rfl tz24 rfl rfl (by first | (simp [Value.oneCell']; done) | (intro u hu; simp only [List.mem_cons, List.not_mem_nil, or_false] at hu; rcases hu with rfl | rfl <;> first | rfl | assumption)) (fun w14 hw14 => ?_)
        try clear hw13
        refine l_assign rfl rfl rfl ?_
        refine l_nil ?_
        have hw15 := St.del (.tail (.tail .head)) hw14
        try clear hw14
        have hw16 := St.del (.tail .head) hw15
        try clear hw15
        have hw17 := St.del .head hw16
        try clear hw16
        refine e_meetk (abM (5 ^ n), Ma.blen (5 ^ n) - 128) ?_ (.cons rfl .nil) ?_
        · exact ⟨hw17, een⟩
        · exact (.cons rfl (by first | rfl | (refine congrArg (Value.int _) ?_; omega)) .nil)
    rintro ⟨M, E⟩ w18 ⟨hw18, hen⟩
    show RunC P _ _ _ (_ :: _) _
    refine c_seq ?_
    refine c_region ?_
    refine l_load_agg hw18 mem0 rfl rfl Try.underlying24 rfl tz24 rfl (.take (.take .nil)) ?_
    refine l_move rfl rfl rfl ?_
    refine l_store_blks hw18 .head (.zero (.zero .nil)) rfl tz24 rfl rfl (by first | (simp [Value.oneCell']; done) | (intro u hu; simp only [List.mem_cons, List.not_mem_nil, or_false] at hu; rcases hu with rfl | rfl <;> first | rfl | assumption)) (fun w19 hw19 => ?_)
    try clear hw18
    refine l_assign rfl rfl rfl ?_
    refine l_assign rfl rfl rfl ?_
    refine l_nil ?_
    refine e_then ?_
    refine c_keep [2, 3, 4] (.cons rfl (.cons rfl (.cons rfl .nil))) ?_
    refine c_ret ?_
    refine e_doneN Try.results9 (.cell rfl (load_agg_run hw19 mem0 Try.underlying24 rfl tz24 (.take (.take .nil))) (.tmp rfl (.tmp rfl .nil))) rfl ?_
    refine ⟨_, rfl, ?_⟩
    have hw20 := St.del .head hw19
    try clear hw19
    rw [hen]
    exact ⟨rfl, hw20.grows⟩
end Go.Proofs.Ytellpcjmpmcpoaa.W
