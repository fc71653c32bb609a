/- walks of power.words, powers and what it gives -/
import Derived.Test.YtggdkplphfofkaaGreatNa
set_option linter.unusedVariables false
set_option linter.unusedSimpArgs false
set_option maxRecDepth 10000
namespace Go.Proofs.YtggdkplphfofkaaGreat.W
open Go.Vc Go.RowKit
abbrev wideV (n : Int) : Value := .agg #[.int .u64 (n / 18446744073709551616), .int .u64 (n % 18446744073709551616)]
theorem wide_words : ∀ {ls : List Int}, U ls → ls.length ≤ 2 → (if 1 < ls.length then ls.getD 1 0 else 0) = nv ls / 18446744073709551616 ∧ (if 0 < ls.length then ls.getD 0 0 else 0) = nv ls % 18446744073709551616
 | [], _, _ => by decide
 | [a], h, _ => by
  have ha := h a (.head _)
  simp [Ma.vb]
  omega
 | [a, b], h, _ => by
  have ha := h a (.head _)
  have hb := h b (.tail _ (.head _))
  simp [Ma.vb]
  omega
 | _ :: _ :: _ :: _, _, h => by simp at h
set_option exponentiation.threshold 2000 in
theorem five_blen (n : Nat) (h : n ≤ 401) : Ma.blen (5 ^ n) ≤ 1203 := by
 have hp : ∀ n : Nat, (0 : Int) ≤ 5 ^ n ∧ (5 : Int) ^ n ≤ 8 ^ n := by
  intro n
  induction n with
  | zero => decide
  | succ n ih =>
   rw [Int.pow_succ, Int.pow_succ]
   have := ih.1
   have := ih.2
   omega
 have h1 := hp n
 refine (Ma.blen_le_iff h1.1 1203).2 ?_
 have h2 : (8 : Int) ^ n = 2 ^ (3 * n) := by rw [Int.pow_mul]; rfl
 have h3 := Ma.pow_mono (show (1 : Int) ≤ 2 by omega) (show 3 * n + 0 ≤ 1203 by omega)
 have h4 : (5 : Int) ^ n < 8 ^ n ∨ n = 0 := by
  rcases Nat.eq_zero_or_pos n with h | h
  ·exact .inr h
  ·refine .inl ?_
   obtain ⟨m, rfl⟩ : ∃ m, n = m + 1 := ⟨n - 1, by omega⟩
   have := hp m
   have hp5 := Ma.pow_pos (show (0 : Int) < 5 by omega) m
   rw [Int.pow_succ, Int.pow_succ]
   omega
 rcases h4 with h4 | h4
 ·rw [h2] at h4
  exact Int.lt_of_lt_of_le h4 (by simpa using h3)
 ·subst h4
  exact Int.lt_of_lt_of_le (show (5 : Int) ^ 0 < 2 ^ 1 by decide) (Ma.pow_mono (by omega) (by omega))
theorem powF {n : Nat} (hn : n ≤ 401) {w : World} : CallsV P 63 [.int .u64 5, .int .i64 (n : Int)] w fun r w' => ∃ v ls, r = .tuple #[v, .int .i64 0] ∧ Ma.Cn 18446744073709551616 ls (5 ^ n) ∧ Grow w w' [As.ri 65 .u64 v ls] := by
 refine (powN 5 n (by omega) (by omega) w).mono ?_
 intro r w' h
 have hb := five_blen n hn
 rw [powS_ok (by omega) (by rw [Int.toNat_natCast]; omega), Int.toNat_natCast] at h
 exact h
theorem Uone {x : Int} (h : 0 ≤ x ∧ x ≤ 18446744073709551615) : U [x] := fun y hy => by rw [List.mem_singleton.1 hy]; exact h
theorem nvone (x : Int) : nv [x] = x := by simp [Ma.vb]
theorem Cnone {x : Int} (h : 0 < x ∧ x ≤ 18446744073709551615) : Ma.Cn 18446744073709551616 [x] x := ⟨(Uone (by omega)).dg, ⟨fun _ => by omega, trivial⟩, by simp [Ma.vb]⟩
theorem wordsP (v : Value) (ls : List Int) (hU : U ls) (hL : ls.length ≤ 2) (w : World) (hv : IV w v (ints .u64 ls)) :
  CallsV P 70 [v] w fun r w' => r = wideV (nv ls) ∧ Grow w w' [] := by
 refine enterW Tryz.func70 rfl Tryz.ntmps70 rfl ?_
 have hw0 := St.start w
 refine c_seq (c_region ?_)
 refine l_alloc hw0 ta67 rfl rfl (fun b0_0 w1 hw1 => ?_)
 try clear hw0
 refine l_nil (e_then (c_seq (c_region ?_)))
 refine l_buildS rfl rfl pl67 ta67 .nil ?_
 refine l_alloc hw1 ta67 rfl rfl (fun b1_1 w2 hw2 => ?_)
 try clear hw1
 refine l_store_blks hw2 .head (.zero (.zero .nil)) rfl tz67 rfl rfl (by first | (simp [Value.oneCell']; done) | (intro u hu; simp only [List.mem_cons, List.not_mem_nil, or_false] at hu; rcases hu with rfl | rfl <;> first | rfl | assumption)) (fun w3 hw3 => ?_)
 try clear hw2
 refine l_nil (e_then ?_)
 refine c_keep [0, 2, 3] (.cons rfl (.cons rfl (.cons rfl .nil))) ?_
 refine c_seq (c_seq (c_region (l_move rfl rfl rfl ?_)))
 refine v_leni rfl rfl Tryz.underlying117 rfl (by first | exact hw3.ibl mem0 | exact hw3.ibl mem1 | exact hw3.iarg hv | assumption) ?_
 refine l_move rfl rfl rfl (l_nil (e_then ?_))
 refine c_keep [2, 3, 7, 8, 9] (.cons rfl (.cons rfl (.cons rfl (.cons rfl (.cons rfl .nil))))) ?_
 refine c_block ?_
 refine c_loopk (ι := Nat × Int × Int) (fun (z0 : Nat × Int × Int) => match z0 with | ⟨i, hi, lo⟩ => ls.length - i) (fun (z0 : Nat × Int × Int) (w' : World) => match z0 with | ⟨i, hi, lo⟩ => St w w.heap.size None' ([As.blk b1_1 67 [.int .u64 hi, .int .u64 lo], As.blk b0_0 67 [.int .u64 0, .int .u64 0]]) w' ∧ i ≤ ls.length ∧ hi = (if 1 < i then ls.getD 1 0 else 0) ∧ lo = (if 0 < i then ls.getD 0 0 else 0)) (fun (z0 : Nat × Int × Int) => match z0 with | ⟨i, hi, lo⟩ => [(9, .int .i64 (i : Int))]) [2, 3, 7, 8] (0, 0, 0) ?_ (.cons rfl (.cons rfl (.cons rfl (.cons rfl .nil)))) ?_ ?_
 ·exact ⟨hw3, by omega, rfl, rfl⟩
 ·exact (.cons rfl (by first | rfl | (refine congrArg (Value.int _) ?_; omega)) .nil)
 rintro ⟨i, hi, lo⟩ w4 ⟨hw4, hi1, hhi, hlo⟩
 show RunC P _ _ _ (_ :: _) _
 refine c_seq (c_region ?_)
 refine l_lss rfl rfl rfl rfl ?_
 refine l_nil (e_then (c_seq ?_))
 first | refine c_cond rfl (fun hc0 => ?_) (fun hc0 => ?_) | refine c_condb rfl (fun hc0 => ?_) (fun hc0 => ?_)
 ·skip
  refine c_skip (e_then ?_)
  refine c_keep [2, 3, 7, 8, 9] (.cons rfl (.cons rfl (.cons rfl (.cons rfl (.cons rfl .nil))))) ?_
  refine c_seq (c_block (c_seq (c_region (l_move rfl rfl rfl ?_))))
  refine v_getr (j := i) rfl rfl rfl rfl Tryz.underlying117 tz65 Tryz.underlying65 rfl rfl (by first | exact hw4.ibl mem0 | exact hw4.ibl mem1 | exact hw4.iarg hv | assumption) (by assumption) rfl (by omega) (by first | omega | (simp; done) | (simp; omega)) (fun hb4_1 => ?_)
  refine l_assign rfl rfl rfl (l_assign rfl rfl rfl (l_nil (e_then ?_)))
  refine c_keep [2, 3, 4, 5, 7, 8, 9] (.cons rfl (.cons rfl (.cons rfl (.cons rfl (.cons rfl (.cons rfl (.cons rfl .nil))))))) ?_
  refine c_seq (c_region (l_move rfl rfl rfl ?_))
  refine l_eql rfl rfl rfl rfl ?_
  refine l_nil (e_then ?_)
  refine c_keep [2, 3, 5, 7, 8, 9, 15] (.cons rfl (.cons rfl (.cons rfl (.cons rfl (.cons rfl (.cons rfl (.cons rfl .nil))))))) ?_
  first | refine c_cond rfl (fun hc1 => ?_) (fun hc1 => ?_) | refine c_condb rfl (fun hc1 => ?_) (fun hc1 => ?_)
  ·skip
   refine c_region (l_move rfl rfl rfl (l_field fo67_1 rfl rfl rfl ?_))
   refine l_store_blk hw4 .head (by repeat (first | exact .zero | apply SetAt.succ)) rfl tz65 rfl rfl (by first | rfl | assumption) (fun w5 hw5 => ?_)
   try clear hw4
   refine l_nil ?_
   refine e_blk ?_
   refine e_then ?_
   refine c_keep [2, 3, 7, 8, 9] (.cons rfl (.cons rfl (.cons rfl (.cons rfl (.cons rfl .nil))))) ?_
   refine c_region ?_
   refine l_add rfl rfl rfl rfl (w_i64 (by omega)) ?_
   refine l_move rfl rfl rfl (l_nil ?_)
   refine e_againk (i := (i, hi, lo)) (i + 1, hi, ls.getD i 0) ?_ ?_ (.cons rfl (.cons rfl (.cons rfl (.cons rfl .nil)))) ?_
   ·first | omega | (simp; omega)
   ·have hz : i = 0 := by omega
    subst hz
    exact ⟨hw5, by omega, by rw [hhi]; rfl, rfl⟩
   ·exact (.cons rfl (by first | rfl | (refine congrArg (Value.int _) ?_; omega)) .nil)
  ·skip
   refine c_region (l_move rfl rfl rfl (l_field fo67_0 rfl rfl rfl ?_))
   refine l_store_blk hw4 .head (by repeat (first | exact .zero | apply SetAt.succ)) rfl tz65 rfl rfl (by first | rfl | assumption) (fun w6 hw6 => ?_)
   try clear hw4
   refine l_nil ?_
   refine e_blk ?_
   refine e_then ?_
   refine c_keep [2, 3, 7, 8, 9] (.cons rfl (.cons rfl (.cons rfl (.cons rfl (.cons rfl .nil))))) ?_
   refine c_region ?_
   refine l_add rfl rfl rfl rfl (w_i64 (by omega)) ?_
   refine l_move rfl rfl rfl (l_nil ?_)
   refine e_againk (i := (i, hi, lo)) (i + 1, ls.getD i 0, lo) ?_ ?_ (.cons rfl (.cons rfl (.cons rfl (.cons rfl .nil)))) ?_
   ·first | omega | (simp; omega)
   ·have hz : i = 1 := by omega
    subst hz
    exact ⟨hw6, by omega, rfl, by rw [hlo]; rfl⟩
   ·exact (.cons rfl (by first | rfl | (refine congrArg (Value.int _) ?_; omega)) .nil)
 ·skip
  refine c_exit ?_
  refine e_then_exit ?_
  refine e_then_exit ?_
  refine e_blk_exit ?_
  refine e_then ?_
  refine c_keep [2, 3] (.cons rfl (.cons rfl .nil)) ?_
  refine c_seq (c_region ?_)
  refine l_load_agg hw4 mem0 rfl rfl Tryz.underlying67 rfl tz67 rfl (.take (.take .nil)) ?_
  refine l_store_blks hw4 (.tail .head) (.zero (.zero .nil)) rfl tz67 rfl rfl (by first | (simp [Value.oneCell']; done) | (intro u hu; simp only [List.mem_cons, List.not_mem_nil, or_false] at hu; rcases hu with rfl | rfl <;> first | rfl | assumption)) (fun w7 hw7 => ?_)
  try clear hw4
  refine l_nil (e_then ?_)
  refine c_keep [2] (.cons rfl .nil) ?_
  refine c_ret ?_
  refine e_doneC Tryz.results70 (.cell rfl (load_agg_run hw7 mem1 Tryz.underlying67 rfl tz67 (.take (.take .nil))) .nil) ?_
  refine ⟨_, rfl, ?_⟩
  have hw8 := St.del (.tail .head) hw7
  try clear hw7
  have hw9 := St.del .head hw8
  try clear hw8
  obtain rfl : i = ls.length := by omega
  have hww := wide_words hU hL
  rw [← hhi, ← hlo] at hww
  exact ⟨by unfold wideV; rw [← hww.1, ← hww.2], hw9.grows⟩
theorem powersP (n : Nat) (hn : n ≤ 400) (w : World) :
  CallsV P 48 [.int .i64 (n : Int)] w fun r w' => ∃ b vl ls, r = .func (.func 64) #[] #[.pointer (some ⟨b, 0, none⟩)] ∧ Ma.Cn 18446744073709551616 ls (5 ^ n) ∧ Grow w w' [As.blk b 117 [vl], As.ri 65 .u64 vl ls] := by
 refine enterW Tryz.func48 rfl Tryz.ntmps48 rfl ?_
 have hw0 := St.start w
 refine c_seq (c_region (l_assign rfl rfl rfl (l_nil (e_then ?_))))
 refine c_keep [0] (.cons rfl .nil) ?_
 refine c_seq (c_region (l_move rfl rfl rfl ?_))
 refine l_call rfl rfl Tryz.func63 rfl rfl (.cons rfl (.cons rfl .nil)) (powF (n := n) (by omega) (w := w)) ?_
 rintro _ w1 ⟨vl, ls, rfl, hcn, hG⟩
 have hw1 := hG _ _ _ _ hw0
 try clear hG hw0
 simp only [List.cons_append, List.nil_append] at hw1
 have hone1 := slice_one (hw1.io mem0)
 refine l_move rfl rfl rfl (l_extract rfl rfl rfl rfl (l_extract rfl rfl rfl rfl ?_))
 refine l_alloc hw1 ta117 rfl rfl (fun b1_5 w2 hw2 => ?_)
 try clear hw1
 refine l_store_blk hw2 .head (by repeat (first | exact .zero | apply SetAt.succ)) rfl tz117 rfl rfl (by first | rfl | assumption) (fun w3 hw3 => ?_)
 try clear hw2
 refine l_assign rfl rfl rfl (l_nil (e_then ?_))
 refine c_keep [3] (.cons rfl .nil) ?_
 refine c_seq (c_region ?_)
 refine l_makeFunc rfl rfl (.cons rfl .nil) ?_
 refine l_assign rfl rfl rfl (l_nil (e_then ?_))
 refine c_keep [2] (.cons rfl .nil) ?_
 refine c_ret ?_
 refine e_done1 Tryz.results48 rfl ?_
 refine ⟨_, rfl, ?_⟩
 have hw4 := St.front1 hw3
 try clear hw3
 have hw5 := St.front1 hw4
 try clear hw4
 exact ⟨_, _, _, rfl, hcn, hw5.grows⟩
theorem nextP (b : Nat) (vl : Value) (ls : List Int) (n : Nat) (hn : n ≤ 400) (hc : Ma.Cn 18446744073709551616 ls (5 ^ n)) (w : World) (hS : Sep w.heap.size (fps [As.blk b 117 [vl], As.ri 65 .u64 vl ls]) w [As.blk b 117 [vl], As.ri 65 .u64 vl ls]) :
  CallsV P 64 [.pointer (some ⟨b, 0, none⟩)] w fun r w' => vl = r ∧ ∃ vm lm, Ma.Cn 18446744073709551616 lm (5 ^ (n + 1)) ∧ Trans w w' [As.blk b 117 [vl], As.ri 65 .u64 vl ls] [As.blk b 117 [vm], As.ri 65 .u64 vm lm, As.ri 65 .u64 vl ls] := by
 refine enterW Tryz.func64 rfl Tryz.ntmps64 rfl ?_
 have hw0 := St.startS hS
 have hb0 := five_blen n (by omega)
 have hb1 := five_blen (n + 1) (by omega)
 have hll := cn_len hc (k := 1203) (by omega)
 have ev : nv ls = 5 ^ n := hc.val
 refine c_seq (c_region (l_assign rfl rfl rfl (l_nil (e_then ?_))))
 refine c_keep [0] (.cons rfl .nil) ?_
 refine c_seq (c_region ?_)
 refine l_load_blk hw0 mem0 rfl rfl Tryz.underlying117 rfl rfl rfl ?_
 refine l_assign rfl rfl rfl (l_nil (e_then ?_))
 refine c_keep [0, 2] (.cons rfl (.cons rfl .nil)) ?_
 refine c_seq (c_region (l_move rfl rfl rfl ?_))
 refine v_lit hw0 rfl rfl Tryz.underlying117 ti65 rfl (.cons rfl (by first | rfl | assumption) .nil) rfl rfl rfl (fun b2_1 w1 hw1 => ?_)
 try clear hw0
 refine l_call rfl rfl Tryz.func65 rfl rfl (.cons rfl (.cons rfl .nil)) (mulS (cnU hc) (Uone (x := 5) (by omega)) (by omega) (by simp) (by rw [ev]; omega) (by rw [nvone]; decide) (by rw [ev, nvone, ← Int.pow_succ]; exact Int.le_trans hb1 (by omega)) (hw1.io mem2) (hw1.ibl mem0)) ?_
 rintro _ w2 ⟨vm, lm, rfl, hm, hG⟩
 have hw2 := hG _ _ _ _ hw1
 try clear hG hw1
 simp only [List.cons_append, List.nil_append] at hw2
 have hone1 := slice_one (hw2.io mem0)
 refine l_move rfl rfl rfl (l_extract rfl rfl rfl rfl (l_extract rfl rfl rfl rfl ?_))
 refine l_store_blk hw2 (.tail (.tail .head)) (by repeat (first | exact .zero | apply SetAt.succ)) rfl tz117 rfl rfl (by first | rfl | assumption) (fun w3 hw3 => ?_)
 try clear hw2
 refine l_nil (e_then ?_)
 refine c_keep [2] (.cons rfl .nil) ?_
 refine c_seq (c_region (l_move rfl rfl rfl (l_assign rfl rfl rfl (l_nil (e_then ?_)))))
 refine c_keep [1] (.cons rfl .nil) ?_
 refine c_ret ?_
 refine e_done1 Tryz.results64 rfl ?_
 refine ⟨_, rfl, ?_⟩
 have hw4 := St.front3 hw3
 try clear hw3
 have hw5 := St.front1 hw4
 try clear hw4
 have hw6 := St.front3 hw5
 try clear hw5
 have hw7 := St.del (.tail (.tail (.tail .head))) hw6
 try clear hw6
 rw [ev, nvone, ← Int.pow_succ] at hm
 exact ⟨rfl, _, _, hm, St.transS (τ' := [As.blk b 117 [vm], As.ri 65 .u64 vm lm, As.ri 65 .u64 vl ls]) hw7⟩
end Go.Proofs.YtggdkplphfofkaaGreat.W
