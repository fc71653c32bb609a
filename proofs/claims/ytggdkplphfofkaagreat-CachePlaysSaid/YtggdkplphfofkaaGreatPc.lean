/- walks of the reference's Wide, Five, Entry -/
import Derived.Test.YtggdkplphfofkaaGreatPb
set_option linter.unusedVariables false
set_option linter.unusedSimpArgs false
set_option maxRecDepth 10000
namespace Go.Proofs.YtggdkplphfofkaaGreat.W
open Go.Vc Go.RowKit
theorem wideR (v : Value) (l : List Int) (n : Int) (hR : R16 l n) (hL : l.length ≤ 1048576) (w : World) (hv : IV w v (ints .i64 l)) :
  CallsV P 40 [v] w fun r w' => r = .tuple #[wideV (n % 340282366920938463463374607431768211456), .bool (decide (128 < Ma.blen n))] ∧ Grow w w' [] := by
 refine enterW Tryz.func40 rfl Tryz.ntmps40 rfl ?_
 have hw0 := St.start w
 refine c_seq (c_region ?_)
 refine l_alloc hw0 ta67 rfl rfl (fun b0_0 w1 hw1 => ?_)
 try clear hw0
 refine l_assign rfl rfl rfl (l_nil (e_then ?_))
 refine c_keep [0, 2] (.cons rfl (.cons rfl .nil)) ?_
 refine c_seq (c_region (l_move rfl rfl rfl ?_))
 refine l_call rfl rfl Tryz.func53 rfl rfl (.cons rfl .nil) (wordsR v l n hR (by omega) w1 (hw1.iarg hv)) ?_
 rintro _ w2 ⟨vw, lw, rfl, hcn, hG⟩
 have hw2 := hG _ _ _ _ hw1
 try clear hG hw1
 simp only [List.cons_append, List.nil_append] at hw2
 have hlw := cn_len hcn (k := (Ma.blen n).toNat) (by have := Ma.blen_nonneg n; omega)
 have hbl := hR.blen
 have hbn := Ma.blen_nonneg n
 refine v_lit hw2 rfl rfl Tryz.underlying117 ti65 rfl (.cons rfl (by first | rfl | assumption) (.cons rfl (by first | rfl | assumption) .nil)) rfl rfl rfl (fun b1_2 w3 hw3 => ?_)
 try clear hw2
 refine v_push hw3 rfl rfl Tryz.underlying117 ti65 rfl rfl rfl rfl (by first | (simp [Value.oneCell']; done) | (intro u hu; rw [List.mem_singleton.1 hu]; assumption)) (by first | (simp; done) | (simp; omega)) (by first | (simp; done) | (simp; omega)) (fun v1_3 w4 hw4 => ?_)
 try clear hw3
 have hi2 : ints .u64 (lw ++ [0, 0]) = ints .u64 lw ++ [.int .u64 0, .int .u64 0] := by simp [ints]
 have hw5 := hw4.cast (σ' := [As.ro 65 v1_3 (ints .u64 (lw ++ [0, 0])), As.blk b0_0 67 [.int .u64 0, .int .u64 0]]) (by rw [hi2])
 try clear hw4
 refine l_assign rfl rfl rfl (l_nil (e_then ?_))
 refine c_keep [0, 2, 4] (.cons rfl (.cons rfl (.cons rfl .nil))) ?_
 refine c_seq ?_
 have hw6 := hw5.drewn
 try clear hw5
 obtain ⟨A2, c2, hv2⟩ := (hw6.io mem0).lies (by simp)
 have hUw : U (lw ++ [0, 0]) := fun x hx => (List.mem_append.1 hx).elim (cnU hcn x) (fun h => by have e : x = 0 := (by simpa using h); omega)
 refine c_any (n := 12) [false, false, false, false, false, false, false, false, false, false, false, false] (fun wS => IS wS .u64 v1_3 (lw ++ [0, 0]) ∧ IS wS .i64 v l) (by kernel_rfl) rfl rfl ?_
 apply a_take (L' := [true, false, false, false, false, false, false, false, false, false, false, false]) 0 rfl (by kernel_rfl) (by kernel_rfl) (by kernel_rfl) rfl rfl rfl rfl rfl (⟨hw6.io mem0, hw6.iarg hv⟩)
 ·intro wS sS
  refine l_move rfl rfl rfl (l_nil ?_)
  exact e_got rfl
 apply a_take (L' := [true, true, false, false, false, false, false, false, false, false, false, false]) 1 rfl (by kernel_rfl) (by kernel_rfl) (by kernel_rfl) rfl rfl rfl rfl rfl (⟨hw6.io mem0, hw6.iarg hv⟩)
 ·intro wS sS
  refine v_addrx (j := 0) rfl rfl Tryz.underlying117 tz65 rfl rfl hv2 (by first | rfl | omega) (by first | omega | (simp; done) | (simp; omega)) ?_
  refine l_nil ?_
  exact e_got rfl
 apply a_take (L' := [true, true, true, false, false, false, false, false, false, false, false, false]) 2 rfl (by kernel_rfl) (by kernel_rfl) (by kernel_rfl) rfl rfl rfl rfl rfl (⟨hw6.io mem0, hw6.iarg hv⟩)
 ·intro wS sS
  refine v_loadi rfl rfl Tryz.underlying65 rfl hv2 (by first | exact sS.1 | exact sS.2 | exact hw6.io mem0 | exact hw6.ibl mem1 | exact hw6.iarg hv | assumption) (by assumption) (by first | omega | (simp; done) | (simp; omega)) (fun hb2_2 => ?_)
  refine l_nil ?_
  exact e_got rfl
 apply a_take (L' := [true, true, true, true, false, false, false, false, false, false, false, false]) 3 rfl (by kernel_rfl) (by kernel_rfl) (by kernel_rfl) rfl rfl rfl rfl rfl (⟨hw6.io mem0, hw6.iarg hv⟩)
 ·intro wS sS
  refine l_move rfl rfl rfl (l_nil ?_)
  exact e_got rfl
 apply a_take (L' := [true, true, true, true, true, false, false, false, false, false, false, false]) 4 rfl (by kernel_rfl) (by kernel_rfl) (by kernel_rfl) rfl rfl rfl rfl rfl (⟨hw6.io mem0, hw6.iarg hv⟩)
 ·intro wS sS
  refine v_addrx (j := 1) rfl rfl Tryz.underlying117 tz65 rfl rfl hv2 (by first | rfl | omega) (by first | omega | (simp; done) | (simp; omega)) ?_
  refine l_nil ?_
  exact e_got rfl
 apply a_take (L' := [true, true, true, true, true, true, false, false, false, false, false, false]) 5 rfl (by kernel_rfl) (by kernel_rfl) (by kernel_rfl) rfl rfl rfl rfl rfl (⟨hw6.io mem0, hw6.iarg hv⟩)
 ·intro wS sS
  refine v_loadi rfl rfl Tryz.underlying65 rfl hv2 (by first | exact sS.1 | exact sS.2 | exact hw6.io mem0 | exact hw6.ibl mem1 | exact hw6.iarg hv | assumption) (by assumption) (by first | omega | (simp; done) | (simp; omega)) (fun hb2_5 => ?_)
  refine l_nil ?_
  exact e_got rfl
 apply a_take (L' := [true, true, true, true, true, true, false, true, false, false, false, false]) 7 rfl (by kernel_rfl) (by kernel_rfl) (by kernel_rfl) rfl rfl rfl rfl rfl (⟨hw6.io mem0, hw6.iarg hv⟩)
 ·intro wS sS
  refine l_move rfl rfl rfl (l_nil ?_)
  exact e_got rfl
 refine a_two (L' := [true, true, true, true, true, true, true, true, false, false, false, false]) (L'' := [true, true, true, true, true, true, false, true, true, false, false, false]) 6 8 (by kernel_rfl) rfl rfl rfl rfl ?_ ?_
 ·skip
  refine l_buildS rfl rfl pl67 ta67 (.one rfl rfl (by first | rfl | assumption) (.succ .zero) (.one rfl rfl (by first | rfl | assumption) .zero .nil)) ?_
  refine l_nil ?_
  refine e_any (⟨hw6.io mem0, hw6.iarg hv⟩) ?_
  refine a_one (L' := [true, true, true, true, true, true, true, true, true, false, false, false]) 8 (by kernel_rfl) rfl rfl ?_
  refine l_callp rfl rfl Tryz.func39 rfl rfl (.cons rfl .nil) (bitsR v l n hR (by omega) w4.drew (hw6.iarg hv)) ?_
  refine l_nil ?_
  refine e_any (⟨hw6.io mem0, hw6.iarg hv⟩) ?_
  apply a_take (L' := [true, true, true, true, true, true, true, true, true, true, false, false]) 9 rfl (by kernel_rfl) (by kernel_rfl) (by kernel_rfl) rfl rfl rfl rfl rfl (⟨hw6.io mem0, hw6.iarg hv⟩)
  ·intro wS sS
   refine l_gtr rfl rfl rfl rfl ?_
   refine l_nil ?_
   exact e_got rfl
  refine a_one (L' := [true, true, true, true, true, true, true, true, true, true, true, false]) 10 (by kernel_rfl) rfl rfl ?_
  refine l_store_blks hw6 (.tail .head) (.zero (.zero .nil)) rfl tz67 rfl rfl (by first | (simp [Value.oneCell']; done) | (intro u hu; simp only [List.mem_cons, List.not_mem_nil, or_false] at hu; rcases hu with rfl | rfl <;> first | rfl | assumption)) (fun w7 hw7 => ?_)
  try clear hw6
  refine l_nil ?_
  refine e_any (⟨hw7.io mem0, hw7.iarg hv⟩) ?_
  apply a_take (L' := [true, true, true, true, true, true, true, true, true, true, true, true]) 11 rfl (by kernel_rfl) (by kernel_rfl) (by kernel_rfl) rfl rfl rfl rfl rfl (⟨hw7.io mem0, hw7.iarg hv⟩)
  ·intro wS sS
   refine l_assign rfl rfl rfl (l_nil ?_)
   exact e_got rfl
  refine a_done (by kernel_rfl) ?_
  refine e_then ?_
  refine c_keep [2, 3] (.cons rfl (.cons rfl .nil)) ?_
  refine c_ret ?_
  refine e_doneN Tryz.results40 (.cell rfl (load_agg_run hw7 mem1 Tryz.underlying67 rfl tz67 (.take (.take .nil))) (.tmp rfl .nil)) rfl ?_
  refine ⟨_, rfl, ?_⟩
  have hw8 := St.del (.tail .head) hw7
  try clear hw7
  have hw9 := St.del .head hw8
  try clear hw8
  have h0 := limb_of hUw 0
  have h1 := limb_of hUw 1
  have ev : nv (lw ++ [0, 0]) = n := by
   show Ma.vb _ _ = _
   rw [Ma.vb_append]
   simp [Ma.vb]
   exact hcn.val
  rw [ev, Int.pow_zero, Int.ediv_one] at h0
  rw [ev, Int.pow_one] at h1
  refine ⟨?_, hw9.grows⟩
  unfold wideV
  rw [h0, h1, show n % 340282366920938463463374607431768211456 / 18446744073709551616 = n / 18446744073709551616 % 18446744073709551616 from by omega, show n % 340282366920938463463374607431768211456 % 18446744073709551616 = n % 18446744073709551616 from by omega]
 ·skip
  refine l_callp rfl rfl Tryz.func39 rfl rfl (.cons rfl .nil) (bitsR v l n hR (by omega) w4.drew (hw6.iarg hv)) ?_
  refine l_nil ?_
  refine e_any (⟨hw6.io mem0, hw6.iarg hv⟩) ?_
  apply a_take (L' := [true, true, true, true, true, true, false, true, true, true, false, false]) 9 rfl (by kernel_rfl) (by kernel_rfl) (by kernel_rfl) rfl rfl rfl rfl rfl (⟨hw6.io mem0, hw6.iarg hv⟩)
  ·intro wS sS
   refine l_gtr rfl rfl rfl rfl ?_
   refine l_nil ?_
   exact e_got rfl
  refine a_one (L' := [true, true, true, true, true, true, true, true, true, true, false, false]) 6 (by kernel_rfl) rfl rfl ?_
  refine l_buildS rfl rfl pl67 ta67 (.one rfl rfl (by first | rfl | assumption) (.succ .zero) (.one rfl rfl (by first | rfl | assumption) .zero .nil)) ?_
  refine l_nil ?_
  refine e_any (⟨hw6.io mem0, hw6.iarg hv⟩) ?_
  refine a_one (L' := [true, true, true, true, true, true, true, true, true, true, true, false]) 10 (by kernel_rfl) rfl rfl ?_
  refine l_store_blks hw6 (.tail .head) (.zero (.zero .nil)) rfl tz67 rfl rfl (by first | (simp [Value.oneCell']; done) | (intro u hu; simp only [List.mem_cons, List.not_mem_nil, or_false] at hu; rcases hu with rfl | rfl <;> first | rfl | assumption)) (fun w10 hw10 => ?_)
  try clear hw6
  refine l_nil ?_
  refine e_any (⟨hw10.io mem0, hw10.iarg hv⟩) ?_
  apply a_take (L' := [true, true, true, true, true, true, true, true, true, true, true, true]) 11 rfl (by kernel_rfl) (by kernel_rfl) (by kernel_rfl) rfl rfl rfl rfl rfl (⟨hw10.io mem0, hw10.iarg hv⟩)
  ·intro wS sS
   refine l_assign rfl rfl rfl (l_nil ?_)
   exact e_got rfl
  refine a_done (by kernel_rfl) ?_
  refine e_then ?_
  refine c_keep [2, 3] (.cons rfl (.cons rfl .nil)) ?_
  refine c_ret ?_
  refine e_doneN Tryz.results40 (.cell rfl (load_agg_run hw10 mem1 Tryz.underlying67 rfl tz67 (.take (.take .nil))) (.tmp rfl .nil)) rfl ?_
  refine ⟨_, rfl, ?_⟩
  have hw11 := St.del (.tail .head) hw10
  try clear hw10
  have hw12 := St.del .head hw11
  try clear hw11
  have h0 := limb_of hUw 0
  have h1 := limb_of hUw 1
  have ev : nv (lw ++ [0, 0]) = n := by
   show Ma.vb _ _ = _
   rw [Ma.vb_append]
   simp [Ma.vb]
   exact hcn.val
  rw [ev, Int.pow_zero, Int.ediv_one] at h0
  rw [ev, Int.pow_one] at h1
  refine ⟨?_, hw12.grows⟩
  unfold wideV
  rw [h0, h1, show n % 340282366920938463463374607431768211456 / 18446744073709551616 = n / 18446744073709551616 % 18446744073709551616 from by omega, show n % 340282366920938463463374607431768211456 % 18446744073709551616 = n % 18446744073709551616 from by omega]
theorem R16_five : R16 [5] 5 := ⟨fun x hx => by rw [List.mem_singleton.1 hx]; omega, ⟨fun _ => by omega, trivial⟩, by decide⟩
theorem fiveR (n : Int) (hn : n ≤ 400) (w : World) :
  CallsV P 38 [.int .i64 n] w fun r w' => ∃ v ls, r = v ∧ R16 ls (5 ^ n.toNat) ∧ Grow w w' [As.ri 3 .i64 v ls] := by
 refine enterW Tryz.func38 rfl Tryz.ntmps38 rfl ?_
 have hw0 := St.start w
 refine c_seq (c_region (l_assign rfl rfl rfl (l_nil (e_then ?_))))
 refine c_keep [0] (.cons rfl .nil) ?_
 refine c_seq (c_region ?_)
 refine v_lit hw0 rfl rfl Tryz.underlying32 ti3 rfl (.cons rfl (by first | rfl | assumption) .nil) rfl rfl rfl (fun b1_0 w1 hw1 => ?_)
 try clear hw0
 have hw2 := hw1.blk_own (by decide)
 try clear hw1
 refine l_assign rfl rfl rfl (l_nil (e_then ?_))
 refine c_keep [0, 3] (.cons rfl (.cons rfl .nil)) ?_
 refine c_seq (c_seq (c_region (l_assign rfl rfl rfl (l_nil (e_then ?_)))))
 refine c_block ?_
 refine c_loopk (ι := Nat × List Int × Value) (fun (z0 : Nat × List Int × Value) => match z0 with | ⟨k, lx, vx⟩ => n.toNat - k) (fun (z0 : Nat × List Int × Value) (w' : World) => match z0 with | ⟨k, lx, vx⟩ => St w w.heap.size None' ([As.ri 3 .i64 vx lx]) w' ∧ ((k : Int) ≤ n ∨ k = 0) ∧ R16 lx (5 ^ k)) (fun (z0 : Nat × List Int × Value) => match z0 with | ⟨k, lx, vx⟩ => [(3, vx), (4, .int .i64 (k : Int))]) [0] (0, [1], .slice (some ⟨b1_0, 0, none⟩) 1 1) ?_ (.cons rfl .nil) ?_ ?_
 ·exact ⟨hw2, .inr rfl, by rw [Int.pow_zero]; exact R16_one⟩
 ·exact (.cons rfl (by first | rfl | (refine congrArg (Value.int _) ?_; omega)) (.cons rfl (by first | rfl | (refine congrArg (Value.int _) ?_; omega)) .nil))
 rintro ⟨k, lx, vx⟩ w3 ⟨hw3, hk, hRx⟩
 show RunC P _ _ _ (_ :: _) _
 have hb5 := five_blen k (by omega)
 have hlx := hRx.len (k := 1203) (by omega)
 refine c_seq (c_seq (c_region (l_move rfl rfl rfl (l_move rfl rfl rfl ?_))))
 refine l_lss rfl rfl rfl rfl ?_
 refine l_nil (e_then ?_)
 refine c_keep [0, 3, 4, 8] (.cons rfl (.cons rfl (.cons rfl (.cons rfl .nil)))) ?_
 first | refine c_cond rfl (fun hc0 => ?_) (fun hc0 => ?_) | refine c_condb rfl (fun hc0 => ?_) (fun hc0 => ?_)
 ·skip
  refine c_skip (e_then ?_)
  refine c_keep [0, 3, 4] (.cons rfl (.cons rfl (.cons rfl .nil))) ?_
  refine c_seq (c_block (c_region (l_move rfl rfl rfl ?_)))
  refine v_lit hw3 rfl rfl Tryz.underlying32 ti3 rfl (.cons rfl (by first | rfl | assumption) .nil) rfl rfl rfl (fun b5_1 w4 hw4 => ?_)
  try clear hw3
  refine l_call rfl rfl Tryz.func52 rfl rfl (.cons rfl (.cons rfl .nil)) (prodR _ _ lx [5] _ 5 hRx R16_five (by omega) (by simp) w4 (hw4.io mem1) (hw4.ibl mem0)) ?_
  rintro vp w5 ⟨_, lp, rfl, hRp, hG⟩
  have hw5 := hG _ _ _ _ hw4
  try clear hG hw4
  simp only [List.cons_append, List.nil_append] at hw5
  refine l_assign rfl rfl rfl (l_nil ?_)
  refine e_blk ?_
  refine e_then ?_
  refine c_keep [0, 3, 4] (.cons rfl (.cons rfl (.cons rfl .nil))) ?_
  refine c_region (l_move rfl rfl rfl ?_)
  refine l_add rfl rfl rfl rfl (w_i64 (by omega)) ?_
  refine l_assign rfl rfl rfl (l_nil ?_)
  have hw6 := St.del (.tail (.tail .head)) hw5
  try clear hw5
  have hw7 := St.del (.tail .head) hw6
  try clear hw6
  refine e_againk (i := (k, lx, vx)) (k + 1, lp, vp) ?_ ?_ (.cons rfl .nil) ?_
  ·first | omega | (simp; omega)
  ·exact ⟨hw7, .inl (by omega), by rw [Int.pow_succ]; exact hRp⟩
  ·exact (.cons rfl (by first | rfl | (refine congrArg (Value.int _) ?_; omega)) (.cons rfl (by first | rfl | (refine congrArg (Value.int _) ?_; omega)) .nil))
 ·skip
  refine c_exit ?_
  refine e_then_exit ?_
  refine e_then_exit ?_
  refine e_blk_exit ?_
  refine e_then ?_
  refine c_keep [3] (.cons rfl .nil) ?_
  refine c_seq (c_region (l_move rfl rfl rfl (l_assign rfl rfl rfl (l_nil (e_then ?_)))))
  refine c_keep [2] (.cons rfl .nil) ?_
  refine c_ret ?_
  refine e_done1 Tryz.results38 rfl ?_
  refine ⟨_, rfl, ?_⟩
  obtain rfl : n.toNat = k := by omega
  exact ⟨_, _, rfl, hRx, hw3.grows⟩
theorem len_of_lt {l : List Int} {n : Int} (h : R16 l n) {k : Nat} (hb : n < 2 ^ k) : 16 * l.length ≤ k + 16 := h.len (k := k) ((Ma.blen_le_iff (h.nonneg (by omega)) k).2 hb)
theorem e128 : (2 : Int) ^ 128 = 340282366920938463463374607431768211456 := by decide
theorem entryR (q : Int) (hq : -9223372036854775808 ≤ q ∧ q ≤ 9223372036854775807) (w : World) :
  CallsV P 27 [.int .i64 q] w fun r w' => r = .tuple #[wideV (entS q).1, .int .i64 (entS q).2.1, .int .i64 (entS q).2.2] ∧ Grow w w' [] := by
 refine enterW Tryz.func27 rfl Tryz.ntmps27 rfl ?_
 have hw0 := St.start w
 refine c_seq (c_region ?_)
 refine l_alloc hw0 ta67 rfl rfl (fun b0_0 w1 hw1 => ?_)
 try clear hw0
 refine l_assign rfl rfl rfl (l_assign rfl rfl rfl (l_nil (e_then ?_)))
 refine c_keep [0, 2] (.cons rfl (.cons rfl .nil)) ?_
 refine c_seq (c_seq (c_region (l_move rfl rfl rfl ?_)))
 refine l_lss rfl rfl rfl rfl ?_
 refine l_move rfl rfl rfl ?_
 apply l_or 2 [0, 2] rfl rfl (.cons rfl (.cons rfl (.cons rfl .nil))) rfl rfl (fun _ => rfl) rfl rfl rfl
 ·intro hg1_3
  refine l_move rfl rfl rfl ?_
  refine l_gtr rfl rfl rfl rfl ?_
  refine l_nil ?_
  exact e_stays rfl (.cons rfl (congrArg Value.bool (decide_eq_false hg1_3).symm) (.cons rfl rfl (.cons rfl rfl .nil)))
 refine l_nil (e_then ?_)
 refine c_keep [0, 2, 24] (.cons rfl (.cons rfl (.cons rfl .nil))) ?_
 first | refine c_cond rfl (fun hc0 => ?_) (fun hc0 => ?_) | refine c_condb rfl (fun hc0 => ?_) (fun hc0 => ?_)
 ·skip
  refine c_seq (c_region ?_)
  refine l_buildS rfl rfl pl67 ta67 .nil ?_
  refine l_store_blks hw1 .head (.zero (.zero .nil)) rfl tz67 rfl rfl (by first | (simp [Value.oneCell']; done) | (intro u hu; simp only [List.mem_cons, List.not_mem_nil, or_false] at hu; rcases hu with rfl | rfl <;> first | rfl | assumption)) (fun w2 hw2 => ?_)
  try clear hw1
  refine l_assign rfl rfl rfl (l_assign rfl rfl rfl (l_nil (e_then ?_)))
  refine c_keep [2, 3, 4] (.cons rfl (.cons rfl (.cons rfl .nil))) ?_
  refine c_ret ?_
  refine e_then_ret ?_
  refine e_doneN Tryz.results27 (.cell rfl (load_agg_run hw2 mem0 Tryz.underlying67 rfl tz67 (.take (.take .nil))) (.tmp rfl (.tmp rfl .nil))) rfl ?_
  refine ⟨_, rfl, ?_⟩
  have hw3 := St.del .head hw2
  try clear hw2
  have e : entS q = (0, 0, 60) := if_pos hc0
  rw [e]
  exact ⟨rfl, hw3.grows⟩
 ·skip
  refine c_skip (e_then ?_)
  refine c_keep [0, 2] (.cons rfl (.cons rfl .nil)) ?_
  refine c_seq (c_seq (c_region (l_move rfl rfl rfl ?_)))
  refine l_geq rfl rfl rfl rfl ?_
  refine l_nil (e_then ?_)
  refine c_keep [0, 2, 27] (.cons rfl (.cons rfl (.cons rfl .nil))) ?_
  first | refine c_cond rfl (fun hc1 => ?_) (fun hc1 => ?_) | refine c_condb rfl (fun hc1 => ?_) (fun hc1 => ?_)
  ·skip
   refine c_seq (c_region (l_move rfl rfl rfl ?_))
   refine l_call rfl rfl Tryz.func38 rfl rfl (.cons rfl .nil) (fiveR q (by omega) w1) ?_
   rintro vx w4 ⟨_, lx, rfl, hRx, hG⟩
   have hw4 := hG _ _ _ _ hw1
   try clear hG hw1
   simp only [List.cons_append, List.nil_append] at hw4
   obtain ⟨n, hn⟩ : ∃ n : Nat, q.toNat = n := ⟨_, rfl⟩
   rw [hn] at hRx
   have hb5 := five_blen n (by omega)
   have hlx := hRx.len (k := 1203) (by omega)
   have hbp := Ma.blen_pos (five_pos n)
   have habl := abM_lt (five_pos n)
   have een : entS q = (abM (5 ^ n), Ma.blen (5 ^ n) - 128, 0) := by unfold entS; rw [if_neg (by omega), if_neg (by omega), hn]
   refine l_assign rfl rfl rfl (l_nil (e_then ?_))
   refine c_keep [2, 5] (.cons rfl (.cons rfl .nil)) ?_
   refine c_seq (c_region (l_move rfl rfl rfl ?_))
   refine l_callp rfl rfl Tryz.func39 rfl rfl (.cons rfl .nil) (bitsR vx lx _ hRx (by omega) w4 (hw4.io mem0)) ?_
   refine l_assign rfl rfl rfl (l_nil (e_then ?_))
   refine c_keep [2, 5, 6] (.cons rfl (.cons rfl (.cons rfl .nil))) ?_
   refine c_seq (c_seq (c_region (l_move rfl rfl rfl ?_)))
   refine l_leq rfl rfl rfl rfl ?_
   refine l_nil (e_then ?_)
   refine c_keep [2, 5, 6, 33] (.cons rfl (.cons rfl (.cons rfl (.cons rfl .nil)))) ?_
   first | refine c_cond rfl (fun hc2 => ?_) (fun hc2 => ?_) | refine c_condb rfl (fun hc2 => ?_) (fun hc2 => ?_)
   ·skip
    refine c_seq (c_region (l_move rfl rfl rfl (l_move rfl rfl rfl ?_)))
    refine l_sub rfl rfl rfl rfl (w_i64 (by omega)) ?_
    obtain ⟨k, hk⟩ : ∃ k : Nat, (128 - Ma.blen (5 ^ n)).toNat = k := ⟨_, rfl⟩
    refine l_turn (s := 37) (v' := .int .i64 (k : Int)) rfl (by refine congrArg (Value.int _) ?_; omega) ?_
    have eab : abM (5 ^ n) = 5 ^ n * 2 ^ k := by
     unfold abM
     rcases Int.lt_or_eq_of_le hc2 with h | h
     ·rw [if_pos h, hk]
     ·rw [if_neg (by omega)]
      have hk0 : k = 0 := by omega
      rw [hk0, h]
      simp
    refine l_call rfl rfl Tryz.func41 rfl rfl (.cons rfl (.cons rfl .nil)) (leftR vx lx _ hRx (by omega) k (by omega) w4 (hw4.io mem0)) ?_
    rintro vy w5 ⟨_, ly, rfl, hRy, hG⟩
    have hw5 := hG _ _ _ _ hw4
    try clear hG hw4
    simp only [List.cons_append, List.nil_append] at hw5
    have hly := len_of_lt hRy (k := 128) (by rw [← eab, e128]; exact habl.2)
    refine l_call rfl rfl Tryz.func40 rfl rfl (.cons rfl .nil) (wideR vy ly _ hRy (by omega) w5 (hw5.io mem0)) ?_
    rintro _ w6 ⟨rfl, hG⟩
    have hw6 := hG _ _ _ _ hw5
    try clear hG hw5
    simp only [List.cons_append, List.nil_append] at hw6
    refine l_move rfl rfl rfl (l_extract rfl rfl rfl rfl (l_extract rfl rfl rfl rfl ?_))
    refine l_alloc hw6 ta67 rfl rfl (fun b7_8 w7 hw7 => ?_)
    try clear hw6
    refine l_store_blks hw7 .head (.zero (.zero .nil)) rfl tz67 rfl rfl (by first | (simp [Value.oneCell']; done) | (intro u hu; simp only [List.mem_cons, List.not_mem_nil, or_false] at hu; rcases hu with rfl | rfl <;> first | rfl | assumption)) (fun w8 hw8 => ?_)
    try clear hw7
    refine l_assign rfl rfl rfl (l_nil (e_then ?_))
    refine c_keep [2, 6, 7] (.cons rfl (.cons rfl (.cons rfl .nil))) ?_
    refine c_seq (c_region ?_)
    have hmod : 5 ^ n * 2 ^ k % 340282366920938463463374607431768211456 = abM (5 ^ n) := by rw [← eab]; exact Int.emod_eq_of_lt habl.1 habl.2
    refine l_load_agg hw8 mem0 rfl rfl Tryz.underlying67 rfl tz67 rfl (.take (.take .nil)) ?_
    refine l_move rfl rfl rfl ?_
    refine l_sub rfl rfl rfl rfl (w_i64 (by omega)) ?_
    refine l_store_blks hw8 (.tail (.tail (.tail .head))) (.zero (.zero .nil)) rfl tz67 rfl rfl (by first | (simp [Value.oneCell']; done) | (intro u hu; simp only [List.mem_cons, List.not_mem_nil, or_false] at hu; rcases hu with rfl | rfl <;> first | rfl | assumption)) (fun w9 hw9 => ?_)
    try clear hw8
    refine l_assign rfl rfl rfl (l_assign rfl rfl rfl (l_nil (e_then ?_)))
    refine c_keep [2, 3, 4] (.cons rfl (.cons rfl (.cons rfl .nil))) ?_
    refine c_ret ?_
    refine e_then_ret ?_
    refine e_then_ret ?_
    refine e_doneN Tryz.results27 (.cell rfl (load_agg_run hw9 mem3 Tryz.underlying67 rfl tz67 (.take (.take .nil))) (.tmp rfl (.tmp rfl .nil))) rfl ?_
    refine ⟨_, rfl, ?_⟩
    have hw10 := St.del (.tail (.tail (.tail .head))) hw9
    try clear hw9
    have hw11 := St.del (.tail (.tail .head)) hw10
    try clear hw10
    have hw12 := St.del (.tail .head) hw11
    try clear hw11
    have hw13 := St.del .head hw12
    try clear hw12
    rw [een, hmod]
    exact ⟨rfl, hw13.grows⟩
   ·skip
    refine c_skip (e_then ?_)
    refine c_keep [2, 5, 6] (.cons rfl (.cons rfl (.cons rfl .nil))) ?_
    refine c_seq (c_region (l_move rfl rfl rfl (l_move rfl rfl rfl ?_)))
    refine l_sub rfl rfl rfl rfl (w_i64 (by omega)) ?_
    obtain ⟨k, hk⟩ : ∃ k : Nat, (Ma.blen (5 ^ n) - 128).toNat = k := ⟨_, rfl⟩
    refine l_turn (s := 48) (v' := .int .i64 (k : Int)) rfl (by refine congrArg (Value.int _) ?_; omega) ?_
    have eab : abM (5 ^ n) = 5 ^ n / 2 ^ k := by unfold abM; rw [if_neg (by omega), hk]
    refine l_call rfl rfl Tryz.func42 rfl rfl (.cons rfl (.cons rfl .nil)) (rightR vx lx _ hRx (by omega) k (by omega) w4 (hw4.io mem0)) ?_
    rintro _ w14 ⟨vy, ly, rfl, hRy, hG⟩
    have hw14 := hG _ _ _ _ hw4
    try clear hG hw4
    simp only [List.cons_append, List.nil_append] at hw14
    refine l_move rfl rfl rfl (l_extract rfl rfl rfl rfl (l_extract rfl rfl rfl rfl (l_assign rfl rfl rfl (l_assign rfl rfl rfl (l_nil ?_)))))
    refine e_then ?_
    refine c_keep [2, 6, 9] (.cons rfl (.cons rfl (.cons rfl .nil))) ?_
    refine c_seq (c_region ?_)
    have hly := len_of_lt hRy (k := 128) (by rw [← eab, e128]; exact habl.2)
    refine l_move rfl rfl rfl ?_
    refine l_call rfl rfl Tryz.func40 rfl rfl (.cons rfl .nil) (wideR vy ly _ hRy (by omega) w14 (hw14.io mem0)) ?_
    rintro _ w15 ⟨rfl, hG⟩
    have hw15 := hG _ _ _ _ hw14
    try clear hG hw14
    simp only [List.cons_append, List.nil_append] at hw15
    refine l_move rfl rfl rfl (l_extract rfl rfl rfl rfl (l_extract rfl rfl rfl rfl ?_))
    refine l_alloc hw15 ta67 rfl rfl (fun b10_5 w16 hw16 => ?_)
    try clear hw15
    refine l_store_blks hw16 .head (.zero (.zero .nil)) rfl tz67 rfl rfl (by first | (simp [Value.oneCell']; done) | (intro u hu; simp only [List.mem_cons, List.not_mem_nil, or_false] at hu; rcases hu with rfl | rfl <;> first | rfl | assumption)) (fun w17 hw17 => ?_)
    try clear hw16
    refine l_assign rfl rfl rfl (l_nil (e_then ?_))
    refine c_keep [2, 6, 11] (.cons rfl (.cons rfl (.cons rfl .nil))) ?_
    refine c_seq (c_region ?_)
    have hmod : 5 ^ n / 2 ^ k % 340282366920938463463374607431768211456 = abM (5 ^ n) := by rw [← eab]; exact Int.emod_eq_of_lt habl.1 habl.2
    refine l_load_agg hw17 mem0 rfl rfl Tryz.underlying67 rfl tz67 rfl (.take (.take .nil)) ?_
    refine l_move rfl rfl rfl ?_
    refine l_sub rfl rfl rfl rfl (w_i64 (by omega)) ?_
    refine l_store_blks hw17 (.tail (.tail (.tail .head))) (.zero (.zero .nil)) rfl tz67 rfl rfl (by first | (simp [Value.oneCell']; done) | (intro u hu; simp only [List.mem_cons, List.not_mem_nil, or_false] at hu; rcases hu with rfl | rfl <;> first | rfl | assumption)) (fun w18 hw18 => ?_)
    try clear hw17
    refine l_assign rfl rfl rfl (l_assign rfl rfl rfl (l_nil (e_then ?_)))
    refine c_keep [2, 3, 4] (.cons rfl (.cons rfl (.cons rfl .nil))) ?_
    refine c_ret ?_
    refine e_then_ret ?_
    refine e_doneN Tryz.results27 (.cell rfl (load_agg_run hw18 mem3 Tryz.underlying67 rfl tz67 (.take (.take .nil))) (.tmp rfl (.tmp rfl .nil))) rfl ?_
    refine ⟨_, rfl, ?_⟩
    have hw19 := St.del (.tail (.tail (.tail .head))) hw18
    try clear hw18
    have hw20 := St.del (.tail (.tail .head)) hw19
    try clear hw19
    have hw21 := St.del (.tail .head) hw20
    try clear hw20
    have hw22 := St.del .head hw21
    try clear hw21
    rw [een, hmod]
    exact ⟨rfl, hw22.grows⟩
  ·skip
   refine c_skip (e_then ?_)
   refine c_keep [0, 2] (.cons rfl (.cons rfl .nil)) ?_
   refine c_seq (c_region (l_move rfl rfl rfl ?_))
   refine l_neg rfl rfl rfl (w_i64 (by omega)) ?_
   refine l_call rfl rfl Tryz.func38 rfl rfl (.cons rfl .nil) (fiveR (0 - q) (by omega) w1) ?_
   rintro vx w23 ⟨_, lx, rfl, hRx, hG⟩
   have hw23 := hG _ _ _ _ hw1
   try clear hG hw1
   simp only [List.cons_append, List.nil_append] at hw23
   obtain ⟨n, hn⟩ : ∃ n : Nat, (-q).toNat = n := ⟨_, rfl⟩
   rw [show (0 - q).toNat = n from by omega] at hRx
   have hb5 := five_blen n (by omega)
   have hlx := hRx.len (k := 1203) (by omega)
   have hbp := Ma.blen_pos (five_pos n)
   have hfit : blM (5 ^ n) < 340282366920938463463374607431768211456 := (bl_fit ⟨n, by omega⟩).resolve_left (by show ¬ n = 0; omega)
   have een : entS q = (blM (5 ^ n), -(127 + Ma.blen (5 ^ n)), 0) := by unfold entS; rw [if_neg (by omega), if_pos (by omega), hn]
   refine l_assign rfl rfl rfl (l_nil (e_then ?_))
   refine c_keep [2, 13] (.cons rfl (.cons rfl .nil)) ?_
   refine c_seq (c_region (l_move rfl rfl rfl ?_))
   refine l_callp rfl rfl Tryz.func39 rfl rfl (.cons rfl .nil) (bitsR vx lx _ hRx (by omega) w23 (hw23.io mem0)) ?_
   refine l_assign rfl rfl rfl (l_nil (e_then ?_))
   refine c_keep [2, 13, 14] (.cons rfl (.cons rfl (.cons rfl .nil))) ?_
   refine c_seq (c_region ?_)
   refine v_lit hw23 rfl rfl Tryz.underlying32 ti3 rfl (.cons rfl (by first | rfl | assumption) .nil) rfl rfl rfl (fun b14_0 w24 hw24 => ?_)
   try clear hw23
   refine l_move rfl rfl rfl ?_
   refine l_add rfl rfl rfl rfl (w_i64 (by omega)) ?_
   obtain ⟨k, hk⟩ : ∃ k : Nat, (127 + Ma.blen (5 ^ n)).toNat = k := ⟨_, rfl⟩
   refine l_turn (s := 68) (v' := .int .i64 (k : Int)) rfl (by refine congrArg (Value.int _) ?_; omega) ?_
   have eb : blM (5 ^ n) = 2 ^ k / 5 ^ n + 1 := by unfold blM; rw [hk]
   have hp2 := Ma.pow_pos (show (0 : Int) < 2 by omega) k
   have hqn : (0 : Int) ≤ 2 ^ k / 5 ^ n := Int.ediv_nonneg (Int.le_of_lt hp2) (Int.le_of_lt (five_pos n))
   refine l_call rfl rfl Tryz.func41 rfl rfl (.cons rfl (.cons rfl .nil)) (leftR _ [1] 1 R16_one (by simp) k (by omega) w24 (hw24.ibl mem0)) ?_
   rintro vy w25 ⟨_, ly, rfl, hRy, hG⟩
   have hw25 := hG _ _ _ _ hw24
   try clear hG hw24
   simp only [List.cons_append, List.nil_append] at hw25
   have hly := len_of_lt hRy (k := k + 1) (by rw [Int.one_mul, Int.pow_succ]; omega)
   rw [Int.one_mul] at hRy
   refine l_move rfl rfl rfl ?_
   refine l_call rfl rfl Tryz.func43 rfl rfl (.cons rfl (.cons rfl .nil)) (overR _ _ ly lx _ _ hRy hRx (by omega) (by omega) (five_pos n) w25 (hw25.io mem0) (hw25.io mem2)) ?_
   rintro _ w26 ⟨vq, vr, lq, lr, rfl, hRq, hRr, hG⟩
   have hw26 := hG _ _ _ _ hw25
   try clear hG hw25
   simp only [List.cons_append, List.nil_append] at hw26
   refine l_move rfl rfl rfl (l_extract rfl rfl rfl rfl (l_extract rfl rfl rfl rfl (l_assign rfl rfl rfl (l_assign rfl rfl rfl (l_nil ?_)))))
   refine e_then ?_
   refine c_keep [2, 14, 15] (.cons rfl (.cons rfl (.cons rfl .nil))) ?_
   refine c_seq (c_region ?_)
   have hlq := len_of_lt hRq (k := 128) (by rw [e128]; omega)
   refine l_move rfl rfl rfl ?_
   refine v_lit hw26 rfl rfl Tryz.underlying32 ti3 rfl (.cons rfl (by first | rfl | assumption) .nil) rfl rfl rfl (fun b15_1 w27 hw27 => ?_)
   try clear hw26
   refine l_call rfl rfl Tryz.func44 rfl rfl (.cons rfl (.cons rfl .nil)) (sumR _ _ lq [1] _ 1 hRq R16_one (by omega) (by simp) w27 (hw27.io mem1) (hw27.ibl mem0)) ?_
   rintro vs w28 ⟨_, ls, rfl, hRs, hG⟩
   have hw28 := hG _ _ _ _ hw27
   try clear hG hw27
   simp only [List.cons_append, List.nil_append] at hw28
   have hlsm := len_of_lt hRs (k := 128) (by rw [e128]; omega)
   refine l_call rfl rfl Tryz.func40 rfl rfl (.cons rfl .nil) (wideR vs ls _ hRs (by omega) w28 (hw28.io mem0)) ?_
   rintro _ w29 ⟨rfl, hG⟩
   have hw29 := hG _ _ _ _ hw28
   try clear hG hw28
   simp only [List.cons_append, List.nil_append] at hw29
   refine l_move rfl rfl rfl (l_extract rfl rfl rfl rfl (l_extract rfl rfl rfl rfl ?_))
   refine l_alloc hw29 ta67 rfl rfl (fun b15_7 w30 hw30 => ?_)
   try clear hw29
   refine l_store_blks hw30 .head (.zero (.zero .nil)) rfl tz67 rfl rfl (by first | (simp [Value.oneCell']; done) | (intro u hu; simp only [List.mem_cons, List.not_mem_nil, or_false] at hu; rcases hu with rfl | rfl <;> first | rfl | assumption)) (fun w31 hw31 => ?_)
   try clear hw30
   refine l_assign rfl rfl rfl (l_nil (e_then ?_))
   refine c_keep [2, 14, 17] (.cons rfl (.cons rfl (.cons rfl .nil))) ?_
   refine c_seq (c_region ?_)
   have hmod : (2 ^ k / 5 ^ n + 1) % 340282366920938463463374607431768211456 = blM (5 ^ n) := by rw [eb]; exact Int.emod_eq_of_lt (by omega) (by omega)
   refine l_load_agg hw31 mem0 rfl rfl Tryz.underlying67 rfl tz67 rfl (.take (.take .nil)) ?_
   refine l_move rfl rfl rfl ?_
   refine l_add rfl rfl rfl rfl (w_i64 (by omega)) ?_
   refine l_neg rfl rfl rfl (w_i64 (by omega)) ?_
   refine l_store_blks hw31 (.tail (.tail (.tail (.tail (.tail (.tail (.tail (.tail .head)))))))) (.zero (.zero .nil)) rfl tz67 rfl rfl (by first | (simp [Value.oneCell']; done) | (intro u hu; simp only [List.mem_cons, List.not_mem_nil, or_false] at hu; rcases hu with rfl | rfl <;> first | rfl | assumption)) (fun w32 hw32 => ?_)
   try clear hw31
   refine l_assign rfl rfl rfl (l_assign rfl rfl rfl (l_nil (e_then ?_)))
   refine c_keep [2, 3, 4] (.cons rfl (.cons rfl (.cons rfl .nil))) ?_
   refine c_ret ?_
   refine e_doneN Tryz.results27 (.cell rfl (load_agg_run hw32 mem8 Tryz.underlying67 rfl tz67 (.take (.take .nil))) (.tmp rfl (.tmp rfl .nil))) rfl ?_
   refine ⟨_, rfl, ?_⟩
   have hw33 := St.del (.tail (.tail (.tail (.tail (.tail (.tail (.tail (.tail .head)))))))) hw32
   try clear hw32
   have hw34 := St.del (.tail (.tail (.tail (.tail (.tail (.tail (.tail .head))))))) hw33
   try clear hw33
   have hw35 := St.del (.tail (.tail (.tail (.tail (.tail (.tail .head)))))) hw34
   try clear hw34
   have hw36 := St.del (.tail (.tail (.tail (.tail (.tail .head))))) hw35
   try clear hw35
   have hw37 := St.del (.tail (.tail (.tail (.tail .head)))) hw36
   try clear hw36
   have hw38 := St.del (.tail (.tail (.tail .head))) hw37
   try clear hw37
   have hw39 := St.del (.tail (.tail .head)) hw38
   try clear hw38
   have hw40 := St.del (.tail .head) hw39
   try clear hw39
   have hw41 := St.del .head hw40
   try clear hw40
   rw [een, hmod, Int.zero_sub]
   exact ⟨rfl, hw41.grows⟩
end Go.Proofs.YtggdkplphfofkaaGreat.W
