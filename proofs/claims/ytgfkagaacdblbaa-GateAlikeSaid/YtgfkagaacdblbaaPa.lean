/- walks of power.words, powers and what it gives -/
import Derived.Test.YtgfkagaacdblbaaVr
import Derived.Test.YtgfkagaacdblbaaNa
set_option linter.unusedVariables false
set_option linter.unusedSimpArgs false
set_option maxRecDepth 10000
namespace Go.Proofs.Ytgfkagaacdblbaa.W
open Go.Vc Go.RowKit
abbrev wideV (n : Int) : Value := .agg #[.int .u64 (n / 18446744073709551616), .int .u64 (n % 18446744073709551616)]
theorem wide_words : ∀ {ls : List Int}, U ls → ls.length ≤ 2 → (if 1 < ls.length then ls.getD 1 0 else 0) = nv ls / 18446744073709551616 ∧ (if 0 < ls.length then ls.getD 0 0 else 0) = nv ls % 18446744073709551616
 | [], _, _ => by decide
 | [a], h, _ => by
  have ha := h a (.head _)
  simp [Ma.vb]
  omega
 | [a, b], h, _ => by
  have ha := h a (.head _)
  have hb := h b (.tail _ (.head _))
  simp [Ma.vb]
  omega
 | _ :: _ :: _ :: _, _, h => by simp at h
set_option exponentiation.threshold 2000 in
theorem five_blen (n : Nat) (h : n ≤ 401) : Ma.blen (5 ^ n) ≤ 1203 := by
 have hp : ∀ n : Nat, (0 : Int) ≤ 5 ^ n ∧ (5 : Int) ^ n ≤ 8 ^ n := by
  intro n
  induction n with
  | zero => decide
  | succ n ih =>
   rw [Int.pow_succ, Int.pow_succ]
   have := ih.1
   have := ih.2
   omega
 have h1 := hp n
 refine (Ma.blen_le_iff h1.1 1203).2 ?_
 have h2 : (8 : Int) ^ n = 2 ^ (3 * n) := by rw [Int.pow_mul]; rfl
 have h3 := Ma.pow_mono (show (1 : Int) ≤ 2 by omega) (show 3 * n + 0 ≤ 1203 by omega)
 have h4 : (5 : Int) ^ n < 8 ^ n ∨ n = 0 := by
  rcases Nat.eq_zero_or_pos n with h | h
  ·exact .inr h
  ·refine .inl ?_
   obtain ⟨m, rfl⟩ : ∃ m, n = m + 1 := ⟨n - 1, by omega⟩
   have := hp m
   have hp5 := Ma.pow_pos (show (0 : Int) < 5 by omega) m
   rw [Int.pow_succ, Int.pow_succ]
   omega
 rcases h4 with h4 | h4
 ·rw [h2] at h4
  exact Int.lt_of_lt_of_le h4 (by simpa using h3)
 ·subst h4
  exact Int.lt_of_lt_of_le (show (5 : Int) ^ 0 < 2 ^ 1 by decide) (Ma.pow_mono (by omega) (by omega))
theorem powF {n : Nat} (hn : n ≤ 401) {w : World} : CallsV P 68 [.int .u64 5, .int .i64 (n : Int)] w fun r w' => ∃ v ls, r = .tuple #[v, .int .i64 0] ∧ Ma.Cn 18446744073709551616 ls (5 ^ n) ∧ Grow w w' [As.ri 75 .u64 v ls] := by
 refine (powN 5 n (by omega) (by omega) w).mono ?_
 intro r w' h
 have hb := five_blen n hn
 rw [powS_ok (by omega) (by rw [Int.toNat_natCast]; omega), Int.toNat_natCast] at h
 exact h
theorem Uone {x : Int} (h : 0 ≤ x ∧ x ≤ 18446744073709551615) : U [x] := fun y hy => by rw [List.mem_singleton.1 hy]; exact h
theorem nvone (x : Int) : nv [x] = x := by simp [Ma.vb]
theorem Cnone {x : Int} (h : 0 < x ∧ x ≤ 18446744073709551615) : Ma.Cn 18446744073709551616 [x] x := ⟨(Uone (by omega)).dg, ⟨fun _ => by omega, trivial⟩, by simp [Ma.vb]⟩
theorem wordsP (v : Value) (ls : List Int) (hU : U ls) (hL : ls.length ≤ 2) (w : World) (hv : IV w v (ints .u64 ls)) :
  CallsV P 67 [v] w fun r w' => r = wideV (nv ls) ∧ Grow w w' [] := by
 refine enterW Try.func67 rfl Try.ntmps67 rfl ?_
 have hw0 := St.start w
 refine c_seq (c_region ?_)
 refine l_alloc hw0 ta77 rfl rfl (fun b0_0 w1 hw1 => ?_)
 try clear hw0
 refine l_nil (e_then (c_seq (c_region ?_)))
 refine l_buildS rfl rfl pl77 ta77 .nil ?_
 refine l_alloc hw1 ta77 rfl rfl (fun b1_1 w2 hw2 => ?_)
 try clear hw1
 refine l_store_blks hw2 .head (.zero (.zero .nil)) rfl tz77 rfl rfl (by first | (simp [Value.oneCell']; done) | (intro u hu; simp only [List.mem_cons, List.not_mem_nil, or_false] at hu; rcases hu with rfl | rfl <;> first | rfl | assumption)) (fun w3 hw3 => ?_)
 try clear hw2
 refine l_nil (e_then ?_)
 refine c_keep [0, 2, 3] (.cons rfl (.cons rfl (.cons rfl .nil))) ?_
 refine c_seq (c_seq (c_region (l_move rfl rfl rfl ?_)))
 refine v_leni rfl rfl Try.underlying95 rfl (by first | exact hw3.ibl mem0 | exact hw3.ibl mem1 | exact hw3.iarg hv | assumption) ?_
 refine l_move rfl rfl rfl (l_nil (e_then ?_))
 refine c_keep [2, 3, 7, 8, 9] (.cons rfl (.cons rfl (.cons rfl (.cons rfl (.cons rfl .nil))))) ?_
 refine c_block ?_
 refine c_loopk (ι := Nat × Int × Int) (fun (z0 : Nat × Int × Int) => match z0 with | ⟨i, hi, lo⟩ => ls.length - i) (fun (z0 : Nat × Int × Int) (w' : World) => match z0 with | ⟨i, hi, lo⟩ => St w w.heap.size None' ([As.blk b1_1 77 [.int .u64 hi, .int .u64 lo], As.blk b0_0 77 [.int .u64 0, .int .u64 0]]) w' ∧ i ≤ ls.length ∧ hi = (if 1 < i then ls.getD 1 0 else 0) ∧ lo = (if 0 < i then ls.getD 0 0 else 0)) (fun (z0 : Nat × Int × Int) => match z0 with | ⟨i, hi, lo⟩ => [(9, .int .i64 (i : Int))]) [2, 3, 7, 8] (0, 0, 0) ?_ (.cons rfl (.cons rfl (.cons rfl (.cons rfl .nil)))) ?_ ?_
 ·exact ⟨hw3, by omega, rfl, rfl⟩
 ·exact (.cons rfl (by first | rfl | (refine congrArg (Value.int _) ?_; omega)) .nil)
 rintro ⟨i, hi, lo⟩ w4 ⟨hw4, hi1, hhi, hlo⟩
 show RunC P _ _ _ (_ :: _) _
 refine c_seq (c_region ?_)
 refine l_lss rfl rfl rfl rfl ?_
 refine l_nil (e_then (c_seq ?_))
 first | refine c_cond rfl (fun hc0 => ?_) (fun hc0 => ?_) | refine c_condb rfl (fun hc0 => ?_) (fun hc0 => ?_)
 ·skip
  refine c_skip (e_then ?_)
  refine c_keep [2, 3, 7, 8, 9] (.cons rfl (.cons rfl (.cons rfl (.cons rfl (.cons rfl .nil))))) ?_
  refine c_seq (c_block (c_seq (c_region (l_move rfl rfl rfl ?_))))
  refine v_getr (j := i) rfl rfl rfl rfl Try.underlying95 tz75 Try.underlying75 rfl rfl (by first | exact hw4.ibl mem0 | exact hw4.ibl mem1 | exact hw4.iarg hv | assumption) (by assumption) rfl (by omega) (by first | omega | (simp; done) | (simp; omega)) (fun hb4_1 => ?_)
  refine l_assign rfl rfl rfl (l_assign rfl rfl rfl (l_nil (e_then ?_)))
  refine c_keep [2, 3, 4, 5, 7, 8, 9] (.cons rfl (.cons rfl (.cons rfl (.cons rfl (.cons rfl (.cons rfl (.cons rfl .nil))))))) ?_
  refine c_seq (c_region (l_move rfl rfl rfl ?_))
  refine l_eql rfl rfl rfl rfl ?_
  refine l_nil (e_then ?_)
  refine c_keep [2, 3, 5, 7, 8, 9, 15] (.cons rfl (.cons rfl (.cons rfl (.cons rfl (.cons rfl (.cons rfl (.cons rfl .nil))))))) ?_
  first | refine c_cond rfl (fun hc1 => ?_) (fun hc1 => ?_) | refine c_condb rfl (fun hc1 => ?_) (fun hc1 => ?_)
  ·skip
   refine c_region (l_move rfl rfl rfl (l_field fo77_1 rfl rfl rfl ?_))
   refine l_store_blk hw4 .head (by repeat (first | exact .zero | apply SetAt.succ)) rfl tz75 rfl rfl (by first | rfl | assumption) (fun w5 hw5 => ?_)
   try clear hw4
   refine l_nil ?_
   refine e_blk ?_
   refine e_then ?_
   refine c_keep [2, 3, 7, 8, 9] (.cons rfl (.cons rfl (.cons rfl (.cons rfl (.cons rfl .nil))))) ?_
   refine c_region ?_
   refine l_add rfl rfl rfl rfl (w_i64 (by omega)) ?_
   refine l_move rfl rfl rfl (l_nil ?_)
   refine e_againk (i := (i, hi, lo)) (i + 1, hi, ls.getD i 0) ?_ ?_ (.cons rfl (.cons rfl (.cons rfl (.cons rfl .nil)))) ?_
   ·first | omega | (simp; omega)
   ·have hz : i = 0 := by omega
    subst hz
    exact ⟨hw5, by omega, by rw [hhi]; rfl, rfl⟩
   ·exact (.cons rfl (by first | rfl | (refine congrArg (Value.int _) ?_; omega)) .nil)
  ·skip
   refine c_region (l_move rfl rfl rfl (l_field fo77_0 rfl rfl rfl ?_))
   refine l_store_blk hw4 .head (by repeat (first | exact .zero | apply SetAt.succ)) rfl tz75 rfl rfl (by first | rfl | assumption) (fun w6 hw6 => ?_)
   try clear hw4
   refine l_nil ?_
   refine e_blk ?_
   refine e_then ?_
   refine c_keep [2, 3, 7, 8, 9] (.cons rfl (.cons rfl (.cons rfl (.cons rfl (.cons rfl .nil))))) ?_
   refine c_region ?_
   refine l_add rfl rfl rfl rfl (w_i64 (by omega)) ?_
   refine l_move rfl rfl rfl (l_nil ?_)
   refine e_againk (i := (i, hi, lo)) (i + 1, ls.getD i 0, lo) ?_ ?_ (.cons rfl (.cons rfl (.cons rfl (.cons rfl .nil)))) ?_
   ·first | omega | (simp; omega)
   ·have hz : i = 1 := by omega
    subst hz
    exact ⟨hw6, by omega, rfl, by rw [hlo]; rfl⟩
   ·exact (.cons rfl (by first | rfl | (refine congrArg (Value.int _) ?_; omega)) .nil)
 ·skip
  refine c_exit ?_
  refine e_then_exit ?_
  refine e_then_exit ?_
  refine e_blk_exit ?_
  refine e_then ?_
  refine c_keep [2, 3] (.cons rfl (.cons rfl .nil)) ?_
  refine c_seq (c_region ?_)
  refine l_load_agg hw4 mem0 rfl rfl Try.underlying77 rfl tz77 rfl (.take (.take .nil)) ?_
  refine l_store_blks hw4 (.tail .head) (.zero (.zero .nil)) rfl tz77 rfl rfl (by first | (simp [Value.oneCell']; done) | (intro u hu; simp only [List.mem_cons, List.not_mem_nil, or_false] at hu; rcases hu with rfl | rfl <;> first | rfl | assumption)) (fun w7 hw7 => ?_)
  try clear hw4
  refine l_nil (e_then ?_)
  refine c_keep [2] (.cons rfl .nil) ?_
  refine c_ret ?_
  refine e_doneC Try.results67 (.cell rfl (load_agg_run hw7 mem1 Try.underlying77 rfl tz77 (.take (.take .nil))) .nil) ?_
  refine ⟨_, rfl, ?_⟩
  have hw8 := St.del (.tail .head) hw7
  try clear hw7
  have hw9 := St.del .head hw8
  try clear hw8
  obtain rfl : i = ls.length := by omega
  have hww := wide_words hU hL
  rw [← hhi, ← hlo] at hww
  exact ⟨by unfold wideV; rw [← hww.1, ← hww.2], hw9.grows⟩
theorem powersP (n : Nat) (hn : n ≤ 400) (w : World) :
  CallsV P 59 [.int .i64 (n : Int)] w fun r w' => ∃ b vl ls, r = .func (.func 69) #[] #[.pointer (some ⟨b, 0, none⟩)] ∧ Ma.Cn 18446744073709551616 ls (5 ^ n) ∧ Grow w w' [As.blk b 95 [vl], As.ri 75 .u64 vl ls] := by
 refine enterW Try.func59 rfl Try.ntmps59 rfl ?_
 have hw0 := St.start w
 refine c_seq (c_region (l_assign rfl rfl rfl (l_nil (e_then ?_))))
 refine c_keep [0] (.cons rfl .nil) ?_
 refine c_seq (c_region (l_move rfl rfl rfl ?_))
 refine l_call rfl rfl Try.func68 rfl rfl (.cons rfl (.cons rfl .nil)) (powF (n := n) (by omega) (w := w)) ?_
 rintro _ w1 ⟨vl, ls, rfl, hcn, hG⟩
 have hw1 := hG _ _ _ _ hw0
 try clear hG hw0
 simp only [List.cons_append, List.nil_append] at hw1
 have hone1 := slice_one (hw1.io mem0)
 refine l_move rfl rfl rfl (l_extract rfl rfl rfl rfl (l_extract rfl rfl rfl rfl ?_))
 refine l_alloc hw1 ta95 rfl rfl (fun b1_5 w2 hw2 => ?_)
 try clear hw1
 refine l_store_blk hw2 .head (by repeat (first | exact .zero | apply SetAt.succ)) rfl tz95 rfl rfl (by first | rfl | assumption) (fun w3 hw3 => ?_)
 try clear hw2
 refine l_assign rfl rfl rfl (l_nil (e_then ?_))
 refine c_keep [3] (.cons rfl .nil) ?_
 refine c_seq (c_region ?_)
 refine l_makeFunc rfl rfl (.cons rfl .nil) ?_
 refine l_assign rfl rfl rfl (l_nil (e_then ?_))
 refine c_keep [2] (.cons rfl .nil) ?_
 refine c_ret ?_
 refine e_done1 Try.results59 rfl ?_
 refine ⟨_, rfl, ?_⟩
 have hw4 := St.front1 hw3
 try clear hw3
 have hw5 := St.front1 hw4
 try clear hw4
 exact ⟨_, _, _, rfl, hcn, hw5.grows⟩
theorem nextP (b : Nat) (vl : Value) (ls : List Int) (n : Nat) (hn : n ≤ 400) (hc : Ma.Cn 18446744073709551616 ls (5 ^ n)) (w : World) (hS : Sep w.heap.size (fps [As.blk b 95 [vl], As.ri 75 .u64 vl ls]) w [As.blk b 95 [vl], As.ri 75 .u64 vl ls]) :
  CallsV P 69 [.pointer (some ⟨b, 0, none⟩)] w fun r w' => vl = r ∧ ∃ vm lm, Ma.Cn 18446744073709551616 lm (5 ^ (n + 1)) ∧ Trans w w' [As.blk b 95 [vl], As.ri 75 .u64 vl ls] [As.blk b 95 [vm], As.ri 75 .u64 vm lm, As.ri 75 .u64 vl ls] := by
 refine enterW Try.func69 rfl Try.ntmps69 rfl ?_
 have hw0 := St.startS hS
 have hb0 := five_blen n (by omega)
 have hb1 := five_blen (n + 1) (by omega)
 have hll := cn_len hc (k := 1203) (by omega)
 have ev : nv ls = 5 ^ n := hc.val
 refine c_seq (c_region (l_assign rfl rfl rfl (l_nil (e_then ?_))))
 refine c_keep [0] (.cons rfl .nil) ?_
 refine c_seq (c_region ?_)
 refine l_load_blk hw0 mem0 rfl rfl Try.underlying95 rfl rfl rfl ?_
 refine l_assign rfl rfl rfl (l_nil (e_then ?_))
 refine c_keep [0, 2] (.cons rfl (.cons rfl .nil)) ?_
 refine c_seq (c_region (l_move rfl rfl rfl ?_))
 refine v_lit hw0 rfl rfl Try.underlying95 ti75 rfl (.cons rfl (by first | rfl | assumption) .nil) rfl rfl rfl (fun b2_1 w1 hw1 => ?_)
 try clear hw0
 refine l_call rfl rfl Try.func70 rfl rfl (.cons rfl (.cons rfl .nil)) (mulS (cnU hc) (Uone (x := 5) (by omega)) (by omega) (by simp) (by rw [ev]; omega) (by rw [nvone]; decide) (by rw [ev, nvone, ← Int.pow_succ]; exact Int.le_trans hb1 (by omega)) (hw1.io mem2) (hw1.ibl mem0)) ?_
 rintro _ w2 ⟨vm, lm, rfl, hm, hG⟩
 have hw2 := hG _ _ _ _ hw1
 try clear hG hw1
 simp only [List.cons_append, List.nil_append] at hw2
 have hone1 := slice_one (hw2.io mem0)
 refine l_move rfl rfl rfl (l_extract rfl rfl rfl rfl (l_extract rfl rfl rfl rfl ?_))
 refine l_store_blk hw2 (.tail (.tail .head)) (by repeat (first | exact .zero | apply SetAt.succ)) rfl tz95 rfl rfl (by first | rfl | assumption) (fun w3 hw3 => ?_)
 try clear hw2
 refine l_nil (e_then ?_)
 refine c_keep [2] (.cons rfl .nil) ?_
 refine c_seq (c_region (l_move rfl rfl rfl (l_assign rfl rfl rfl (l_nil (e_then ?_)))))
 refine c_keep [1] (.cons rfl .nil) ?_
 refine c_ret ?_
 refine e_done1 Try.results69 rfl ?_
 refine ⟨_, rfl, ?_⟩
 have hw4 := St.front3 hw3
 try clear hw3
 have hw5 := St.front1 hw4
 try clear hw4
 have hw6 := St.front3 hw5
 try clear hw5
 have hw7 := St.del (.tail (.tail (.tail .head))) hw6
 try clear hw6
 rw [ev, nvone, ← Int.pow_succ] at hm
 exact ⟨rfl, _, _, hm, St.transS (τ' := [As.blk b 95 [vm], As.ri 75 .u64 vm lm, As.ri 75 .u64 vl ls]) hw7⟩
def abM (X : Int) : Int := if Ma.blen X < 128 then X * 2 ^ (128 - Ma.blen X).toNat else X / 2 ^ (Ma.blen X - 128).toNat
def blM (X : Int) : Int := 2 ^ (127 + Ma.blen X).toNat / X + 1
theorem abM_lt {X : Int} (h : 0 < X) : 0 ≤ abM X ∧ abM X < 340282366920938463463374607431768211456 := by
 have hb := (Ma.blen_le_iff (Int.le_of_lt h) (Ma.blen X).toNat).1 (by have := Ma.blen_nonneg X; omega)
 have hb0 := Ma.blen_nonneg X
 have e128 : (2 : Int) ^ 128 = 340282366920938463463374607431768211456 := by decide
 unfold abM
 split
 ·rename_i h1
  have hp := Ma.pow_pos (show (0 : Int) < 2 by omega) (128 - Ma.blen X).toNat
  have h2 : X * 2 ^ (128 - Ma.blen X).toNat < 2 ^ (Ma.blen X).toNat * 2 ^ (128 - Ma.blen X).toNat := Int.mul_lt_mul_of_pos_right hb hp
  rw [← Int.pow_add, show (Ma.blen X).toNat + (128 - Ma.blen X).toNat = 128 from by omega, e128] at h2
  exact ⟨Int.mul_nonneg (Int.le_of_lt h) (Int.le_of_lt hp), h2⟩
 ·rename_i h1
  have hp := Ma.pow_pos (show (0 : Int) < 2 by omega) (Ma.blen X - 128).toNat
  refine ⟨Int.ediv_nonneg (Int.le_of_lt h) (Int.le_of_lt hp), Int.ediv_lt_of_lt_mul hp ?_⟩
  rw [← e128, ← Int.pow_add, show 128 + (Ma.blen X - 128).toNat = (Ma.blen X).toNat from by omega]
  exact hb
def entS (q : Int) : Int × Int × Int := if q < -342 ∨ 308 < q then (0, 0, 60) else if q < 0 then (blM (5 ^ (-q).toNat), -(127 + Ma.blen (5 ^ (-q).toNat)), 0) else (abM (5 ^ q.toNat), Ma.blen (5 ^ q.toNat) - 128, 0)
theorem bl_fit : ∀ n : Fin 343, n.val = 0 ∨ blM (5 ^ n.val) < 340282366920938463463374607431768211456 := by decide +kernel
theorem five_pos (n : Nat) : (0 : Int) < 5 ^ n := Ma.pow_pos (by omega) n
theorem aboveP (v : Value) (ls : List Int) (X : Int) (hc : Ma.Cn 18446744073709551616 ls X) (hx : 0 < X) (hb : Ma.blen X ≤ 1203) (w : World) (hv : IV w v (ints .u64 ls)) :
  CallsV P 60 [v] w fun r w' => r = .tuple #[wideV (abM X), .int .i64 (Ma.blen X - 128)] ∧ Grow w w' [] := by
 refine enterW Try.func60 rfl Try.ntmps60 rfl ?_
 have hw0 := St.start w
 have hll := cn_len hc (k := 1203) hb
 have hbp := Ma.blen_pos hx
 have habl := abM_lt hx
 refine c_seq (c_region ?_)
 refine l_alloc hw0 ta77 rfl rfl (fun b0_0 w1 hw1 => ?_)
 try clear hw0
 refine l_assign rfl rfl rfl (l_nil (e_then ?_))
 refine c_keep [0, 2] (.cons rfl (.cons rfl .nil)) ?_
 refine c_seq (c_region (l_move rfl rfl rfl ?_))
 refine l_callp rfl rfl Try.func63 rfl rfl (.cons rfl .nil) (lenZ hc (by omega) (hw1.iarg hv)) ?_
 refine l_sub rfl rfl rfl rfl (w_i64 (by omega)) ?_
 refine l_assign rfl rfl rfl (l_nil (e_then ?_))
 refine c_keep [0, 2, 4] (.cons rfl (.cons rfl (.cons rfl .nil))) ?_
 refine c_seq (c_seq (c_region (l_move rfl rfl rfl ?_)))
 refine l_lss rfl rfl rfl rfl ?_
 refine l_nil (e_then ?_)
 refine c_keep [0, 2, 4, 14] (.cons rfl (.cons rfl (.cons rfl (.cons rfl .nil)))) ?_
 first | refine c_cond rfl (fun hc0 => ?_) (fun hc0 => ?_) | refine c_condb rfl (fun hc0 => ?_) (fun hc0 => ?_)
 ·skip
  refine c_seq (c_region (l_move rfl rfl rfl (l_move rfl rfl rfl ?_)))
  refine l_neg rfl rfl rfl (w_i64 (by omega)) ?_
  obtain ⟨k, hk⟩ : ∃ k : Nat, (128 - Ma.blen X).toNat = k := ⟨_, rfl⟩
  refine l_turn (s := 18) (v' := .int .i64 (k : Int)) rfl (by refine congrArg (Value.int _) ?_; omega) ?_
  have eab : abM X = X * 2 ^ k := by unfold abM; rw [if_pos (by omega), hk]
  refine l_call rfl rfl Try.func64 rfl rfl (.cons rfl (.cons rfl .nil)) (shlZ (k := k) hc hx (by omega) (by omega) (hw1.iarg hv)) ?_
  rintro _ w2 ⟨vm, lm, rfl, hm, hG⟩
  have hw2 := hG _ _ _ _ hw1
  try clear hG hw1
  simp only [List.cons_append, List.nil_append] at hw2
  refine l_move rfl rfl rfl (l_extract rfl rfl rfl rfl (l_extract rfl rfl rfl rfl (l_assign rfl rfl rfl (l_assign rfl rfl rfl (l_nil ?_)))))
  refine e_then ?_
  refine c_keep [2, 4, 5] (.cons rfl (.cons rfl (.cons rfl .nil))) ?_
  refine c_seq (c_region (l_move rfl rfl rfl ?_))
  refine l_call rfl rfl Try.func67 rfl rfl (.cons rfl .nil) (wordsP vm lm (cnU hm) (cn_len2 hm (by rw [← eab]; exact habl.2)) w2 (hw2.io mem0)) ?_
  rintro _ w3 ⟨rfl, hG⟩
  have hw3 := hG _ _ _ _ hw2
  try clear hG hw2
  simp only [List.cons_append, List.nil_append] at hw3
  refine l_move rfl rfl rfl ?_
  refine l_store_blks hw3 (.tail .head) (.zero (.zero .nil)) rfl tz77 rfl rfl (by first | (simp [Value.oneCell']; done) | (intro u hu; simp only [List.mem_cons, List.not_mem_nil, or_false] at hu; rcases hu with rfl | rfl <;> first | rfl | assumption)) (fun w4 hw4 => ?_)
  try clear hw3
  refine l_assign rfl rfl rfl (l_nil (e_then ?_))
  refine c_keep [2, 3] (.cons rfl (.cons rfl .nil)) ?_
  refine c_ret ?_
  refine e_then_ret ?_
  refine e_doneN Try.results60 (.cell rfl (load_agg_run hw4 mem1 Try.underlying77 rfl tz77 (.take (.take .nil))) (.tmp rfl .nil)) rfl ?_
  refine ⟨_, rfl, ?_⟩
  have hw5 := St.del (.tail .head) hw4
  try clear hw4
  have hw6 := St.del .head hw5
  try clear hw5
  exact ⟨by rw [show nv lm = abM X from hm.val.trans eab.symm], hw6.grows⟩
 ·skip
  refine c_skip (e_then ?_)
  refine c_keep [0, 2, 4] (.cons rfl (.cons rfl (.cons rfl .nil))) ?_
  refine c_seq (c_region (l_move rfl rfl rfl (l_move rfl rfl rfl ?_)))
  obtain ⟨k, hk⟩ : ∃ k : Nat, (Ma.blen X - 128).toNat = k := ⟨_, rfl⟩
  refine l_turn (s := 27) (v' := .int .i64 (k : Int)) rfl (by refine congrArg (Value.int _) ?_; omega) ?_
  have eab : abM X = X / 2 ^ k := by unfold abM; rw [if_neg (by omega), hk]
  refine l_call rfl rfl Try.func71 rfl rfl (.cons rfl (.cons rfl .nil)) (shrZ (k := k) hc (by omega) (by omega) (hw1.iarg hv)) ?_
  rintro _ w7 ⟨vm, lm, bm, rfl, hm, hG⟩
  have hw7 := hG _ _ _ _ hw1
  try clear hG hw1
  simp only [List.cons_append, List.nil_append] at hw7
  refine l_move rfl rfl rfl (l_extract rfl rfl rfl rfl (l_extract rfl rfl rfl rfl (l_extract rfl rfl rfl rfl (l_assign rfl rfl rfl (l_assign rfl rfl rfl ?_)))))
  refine l_assign rfl rfl rfl (l_nil (e_then ?_))
  refine c_keep [2, 4, 7] (.cons rfl (.cons rfl (.cons rfl .nil))) ?_
  refine c_seq (c_region (l_move rfl rfl rfl ?_))
  refine l_call rfl rfl Try.func67 rfl rfl (.cons rfl .nil) (wordsP vm lm (cnU hm) (cn_len2 hm (by rw [← eab]; exact habl.2)) w7 (hw7.io mem0)) ?_
  rintro _ w8 ⟨rfl, hG⟩
  have hw8 := hG _ _ _ _ hw7
  try clear hG hw7
  simp only [List.cons_append, List.nil_append] at hw8
  refine l_move rfl rfl rfl ?_
  refine l_store_blks hw8 (.tail .head) (.zero (.zero .nil)) rfl tz77 rfl rfl (by first | (simp [Value.oneCell']; done) | (intro u hu; simp only [List.mem_cons, List.not_mem_nil, or_false] at hu; rcases hu with rfl | rfl <;> first | rfl | assumption)) (fun w9 hw9 => ?_)
  try clear hw8
  refine l_assign rfl rfl rfl (l_nil (e_then ?_))
  refine c_keep [2, 3] (.cons rfl (.cons rfl .nil)) ?_
  refine c_ret ?_
  refine e_doneN Try.results60 (.cell rfl (load_agg_run hw9 mem1 Try.underlying77 rfl tz77 (.take (.take .nil))) (.tmp rfl .nil)) rfl ?_
  refine ⟨_, rfl, ?_⟩
  have hw10 := St.del (.tail .head) hw9
  try clear hw9
  have hw11 := St.del .head hw10
  try clear hw10
  exact ⟨by rw [show nv lm = abM X from hm.val.trans eab.symm], hw11.grows⟩
theorem belowP (v : Value) (ls : List Int) (X : Int) (hc : Ma.Cn 18446744073709551616 ls X) (hx : 0 < X) (hb : Ma.blen X ≤ 1203) (hfit : blM X < 340282366920938463463374607431768211456) (w : World) (hv : IV w v (ints .u64 ls)) :
  CallsV P 58 [v] w fun r w' => r = .tuple #[wideV (blM X), .int .i64 (-(127 + Ma.blen X))] ∧ Grow w w' [] := by
 refine enterW Try.func58 rfl Try.ntmps58 rfl ?_
 have hw0 := St.start w
 have hll := cn_len hc (k := 1203) hb
 have hbp := Ma.blen_pos hx
 refine c_seq (c_region ?_)
 refine l_alloc hw0 ta77 rfl rfl (fun b0_0 w1 hw1 => ?_)
 try clear hw0
 refine l_assign rfl rfl rfl (l_nil (e_then ?_))
 refine c_keep [0, 2] (.cons rfl (.cons rfl .nil)) ?_
 refine c_seq (c_region (l_move rfl rfl rfl ?_))
 refine l_callp rfl rfl Try.func63 rfl rfl (.cons rfl .nil) (lenZ hc (by omega) (hw1.iarg hv)) ?_
 refine l_add rfl rfl rfl rfl (w_i64 (by omega)) ?_
 refine l_assign rfl rfl rfl (l_nil (e_then ?_))
 refine c_keep [0, 2, 4] (.cons rfl (.cons rfl (.cons rfl .nil))) ?_
 refine c_seq (c_region ?_)
 refine v_lit hw1 rfl rfl Try.underlying95 ti75 rfl (.cons rfl (by first | rfl | assumption) .nil) rfl rfl rfl (fun b2_0 w2 hw2 => ?_)
 try clear hw1
 refine l_move rfl rfl rfl ?_
 obtain ⟨k, hk⟩ : ∃ k : Nat, (127 + Ma.blen X).toNat = k := ⟨_, rfl⟩
 refine l_turn (s := 15) (v' := .int .i64 (k : Int)) rfl (by refine congrArg (Value.int _) ?_; omega) ?_
 have eb : blM X = 2 ^ k / X + 1 := by unfold blM; rw [hk]
 have b2k : Ma.blen (2 ^ k) = k + 1 := Ma.blen_of (Int.le_refl _) (by rw [Int.pow_succ]; have := Ma.pow_pos (show (0 : Int) < 2 by omega) k; omega)
 have hp := Ma.pow_pos (show (0 : Int) < 2 by omega) k
 refine l_call rfl rfl Try.func64 rfl rfl (.cons rfl (.cons rfl .nil)) (shlZ (k := k) (Cnone (x := 1) (by omega)) (by omega) (by simp) (by rw [show Ma.blen 1 = 1 from by decide]; omega) (hw2.ibl mem0)) ?_
 rintro _ w3 ⟨vt, lt, rfl, ht, hG⟩
 have hw3 := hG _ _ _ _ hw2
 try clear hG hw2
 simp only [List.cons_append, List.nil_append] at hw3
 refine l_move rfl rfl rfl (l_extract rfl rfl rfl rfl (l_extract rfl rfl rfl rfl (l_assign rfl rfl rfl (l_assign rfl rfl rfl (l_nil ?_)))))
 refine e_then ?_
 refine c_keep [0, 2, 4, 5] (.cons rfl (.cons rfl (.cons rfl (.cons rfl .nil)))) ?_
 refine c_seq (c_region ?_)
 have llt := cn_len ht (k := 1400) (by rw [Int.one_mul, b2k]; omega)
 refine l_move rfl rfl rfl (l_move rfl rfl rfl ?_)
 refine l_call rfl rfl Try.func65 rfl rfl (.cons rfl (.cons rfl .nil)) (divZ ht hc (by omega) (by omega) (by rw [Int.one_mul, b2k]; omega) (by omega) (by omega) (hw3.io mem0) (hw3.iarg hv)) ?_
 rintro _ w4 ⟨vq, vr, lq, lr, rfl, hq, hr, hG⟩
 have hw4 := hG _ _ _ _ hw3
 try clear hG hw3
 simp only [List.cons_append, List.nil_append] at hw4
 refine l_move rfl rfl rfl (l_extract rfl rfl rfl rfl (l_extract rfl rfl rfl rfl (l_extract rfl rfl rfl rfl (l_assign rfl rfl rfl (l_assign rfl rfl rfl ?_)))))
 refine l_assign rfl rfl rfl (l_nil (e_then ?_))
 refine c_keep [2, 4, 7] (.cons rfl (.cons rfl (.cons rfl .nil))) ?_
 refine c_seq (c_region ?_)
 have evq : nv lq = 2 ^ k / X := by have := hq.val; rwa [Int.one_mul] at this
 have hqn : 0 ≤ 2 ^ k / X := Int.ediv_nonneg (Int.le_of_lt hp) (Int.le_of_lt hx)
 have hb2 := Ma.blen_mono (a := 2 ^ k / X) (b := 2 ^ 128) hqn (by rw [show (2 : Int) ^ 128 = 340282366920938463463374607431768211456 from by decide]; omega)
 have hb3 := Ma.blen_mono (a := 2 ^ k / X + 1) (b := 2 ^ 128) (by omega) (by rw [show (2 : Int) ^ 128 = 340282366920938463463374607431768211456 from by decide]; omega)
 rw [show Ma.blen (2 ^ 128) = 129 from by decide +kernel] at hb2 hb3
 have llq := cn_len hq (k := 1400) (by rw [Int.one_mul]; omega)
 refine l_move rfl rfl rfl ?_
 refine v_lit hw4 rfl rfl Try.underlying95 ti75 rfl (.cons rfl (by first | rfl | assumption) .nil) rfl rfl rfl (fun b4_1 w5 hw5 => ?_)
 try clear hw4
 refine l_call rfl rfl Try.func66 rfl rfl (.cons rfl (.cons rfl .nil)) (addS (cnU hq) (Uone (x := 1) (by omega)) (by omega) (by simp) (by rw [evq]; omega) (by rw [nvone]; decide) (by rw [evq, nvone]; omega) (hw5.io mem1) (hw5.ibl mem0)) ?_
 rintro _ w6 ⟨vs, ls2, rfl, hs, hG⟩
 have hw6 := hG _ _ _ _ hw5
 try clear hG hw5
 simp only [List.cons_append, List.nil_append] at hw6
 refine l_move rfl rfl rfl (l_extract rfl rfl rfl rfl (l_extract rfl rfl rfl rfl (l_assign rfl rfl rfl (l_nil (e_then ?_)))))
 refine c_keep [2, 4, 7] (.cons rfl (.cons rfl (.cons rfl .nil))) ?_
 refine c_seq (c_region (l_move rfl rfl rfl ?_))
 refine l_call rfl rfl Try.func67 rfl rfl (.cons rfl .nil) (wordsP vs ls2 (cnU hs) (cn_len2 hs (by rw [evq, nvone, ← eb]; exact hfit)) w6 (hw6.io mem0)) ?_
 rintro _ w7 ⟨rfl, hG⟩
 have hw7 := hG _ _ _ _ hw6
 try clear hG hw6
 simp only [List.cons_append, List.nil_append] at hw7
 refine l_move rfl rfl rfl ?_
 refine l_neg rfl rfl rfl (w_i64 (by omega)) ?_
 refine l_store_blks hw7 (.tail (.tail (.tail (.tail (.tail (.tail .head)))))) (.zero (.zero .nil)) rfl tz77 rfl rfl (by first | (simp [Value.oneCell']; done) | (intro u hu; simp only [List.mem_cons, List.not_mem_nil, or_false] at hu; rcases hu with rfl | rfl <;> first | rfl | assumption)) (fun w8 hw8 => ?_)
 try clear hw7
 refine l_assign rfl rfl rfl (l_nil (e_then ?_))
 refine c_keep [2, 3] (.cons rfl (.cons rfl .nil)) ?_
 refine c_ret ?_
 refine e_doneN Try.results58 (.cell rfl (load_agg_run hw8 mem6 Try.underlying77 rfl tz77 (.take (.take .nil))) (.tmp rfl .nil)) rfl ?_
 refine ⟨_, rfl, ?_⟩
 have hw9 := St.del (.tail (.tail (.tail (.tail (.tail (.tail .head)))))) hw8
 try clear hw8
 have hw10 := St.del (.tail (.tail (.tail (.tail (.tail .head))))) hw9
 try clear hw9
 have hw11 := St.del (.tail (.tail (.tail (.tail .head)))) hw10
 try clear hw10
 have hw12 := St.del (.tail (.tail (.tail .head))) hw11
 try clear hw11
 have hw13 := St.del (.tail (.tail .head)) hw12
 try clear hw12
 have hw14 := St.del (.tail .head) hw13
 try clear hw13
 have hw15 := St.del .head hw14
 try clear hw14
 exact ⟨by rw [show nv ls2 = blM X from hs.val.trans (by rw [evq, nvone, eb]), Int.zero_sub], hw15.grows⟩
theorem entryP (q : Int) (hq : -9223372036854775808 ≤ q ∧ q ≤ 9223372036854775807) (w : World) :
  CallsV P 43 [.int .i64 q] w fun r w' => r = .tuple #[wideV (entS q).1, .int .i64 (entS q).2.1, .int .i64 (entS q).2.2] ∧ Grow w w' [] := by
 refine enterW Try.func43 rfl Try.ntmps43 rfl ?_
 have hw0 := St.start w
 refine c_seq (c_region ?_)
 refine l_alloc hw0 ta77 rfl rfl (fun b0_0 w1 hw1 => ?_)
 try clear hw0
 refine l_assign rfl rfl rfl (l_assign rfl rfl rfl (l_nil (e_then ?_)))
 refine c_keep [0, 2] (.cons rfl (.cons rfl .nil)) ?_
 refine c_seq (c_seq (c_region (l_move rfl rfl rfl ?_)))
 refine l_lss rfl rfl rfl rfl ?_
 refine l_move rfl rfl rfl ?_
 apply l_or 2 [0, 2] rfl rfl (.cons rfl (.cons rfl (.cons rfl .nil))) rfl rfl (fun _ => rfl) rfl rfl rfl
 ·intro hg1_3
  refine l_move rfl rfl rfl ?_
  refine l_gtr rfl rfl rfl rfl ?_
  refine l_nil ?_
  exact e_stays rfl (.cons rfl (congrArg Value.bool (decide_eq_false hg1_3).symm) (.cons rfl rfl (.cons rfl rfl .nil)))
 refine l_nil (e_then ?_)
 refine c_keep [0, 2, 10] (.cons rfl (.cons rfl (.cons rfl .nil))) ?_
 first | refine c_cond rfl (fun hc0 => ?_) (fun hc0 => ?_) | refine c_condb rfl (fun hc0 => ?_) (fun hc0 => ?_)
 ·skip
  refine c_seq (c_region ?_)
  refine l_load_agg hw1 mem0 rfl rfl Try.underlying77 rfl tz77 rfl (.take (.take .nil)) ?_
  refine l_store_blks hw1 .head (.zero (.zero .nil)) rfl tz77 rfl rfl (by first | (simp [Value.oneCell']; done) | (intro u hu; simp only [List.mem_cons, List.not_mem_nil, or_false] at hu; rcases hu with rfl | rfl <;> first | rfl | assumption)) (fun w2 hw2 => ?_)
  try clear hw1
  refine l_assign rfl rfl rfl (l_assign rfl rfl rfl (l_nil (e_then ?_)))
  refine c_keep [2, 3, 4] (.cons rfl (.cons rfl (.cons rfl .nil))) ?_
  refine c_ret ?_
  refine e_then_ret ?_
  refine e_doneN Try.results43 (.cell rfl (load_agg_run hw2 mem0 Try.underlying77 rfl tz77 (.take (.take .nil))) (.tmp rfl (.tmp rfl .nil))) rfl ?_
  refine ⟨_, rfl, ?_⟩
  have hw3 := St.del .head hw2
  try clear hw2
  have e : entS q = (0, 0, 60) := if_pos hc0
  rw [e]
  exact ⟨rfl, hw3.grows⟩
 ·skip
  refine c_skip (e_then ?_)
  refine c_keep [0, 2] (.cons rfl (.cons rfl .nil)) ?_
  refine c_cutk (ι := Int × Int) (fun (z0 : Int × Int) (w' : World) => match z0 with | ⟨M, E⟩ => St w w.heap.size None' ([As.blk b0_0 77 [.int .u64 (M / 18446744073709551616), .int .u64 (M % 18446744073709551616)]]) w' ∧ entS q = (M, E, 0)) (fun (z0 : Int × Int) => match z0 with | ⟨M, E⟩ => [(3, .int .i64 E)]) [2] (.cons rfl .nil) ?_ ?_
  ·skip
   refine c_seq (c_region (l_move rfl rfl rfl ?_))
   refine l_lss rfl rfl rfl rfl ?_
   refine l_nil (e_then ?_)
   refine c_keep [0, 2, 13] (.cons rfl (.cons rfl (.cons rfl .nil))) ?_
   first | refine c_cond rfl (fun hc1 => ?_) (fun hc1 => ?_) | refine c_condb rfl (fun hc1 => ?_) (fun hc1 => ?_)
   ·skip
    refine c_region (l_move rfl rfl rfl ?_)
    refine l_neg rfl rfl rfl (w_i64 (by omega)) ?_
    obtain ⟨n, hn⟩ : ∃ n : Nat, (-q).toNat = n := ⟨_, rfl⟩
    refine l_turn (s := 16) (v' := .int .i64 (n : Int)) rfl (by refine congrArg (Value.int _) ?_; omega) ?_
    have een : entS q = (blM (5 ^ n), -(127 + Ma.blen (5 ^ n)), 0) := by unfold entS; rw [if_neg (by omega), if_pos hc1, hn]
    refine l_call rfl rfl Try.func59 rfl rfl (.cons rfl .nil) (powersP n (by omega) w1) ?_
    rintro _ w4 ⟨b, vl, ls, rfl, hcn, hG⟩
    have hw4 := hG _ _ _ _ hw1
    try clear hG hw1
    simp only [List.cons_append, List.nil_append] at hw4
    refine l_callv rfl rfl rfl Try.func69 rfl rfl .nil (nextP b vl ls n (by omega) hcn w4 (St.rows (τ := [As.blk b 95 [vl], As.ri 75 .u64 vl ls]) (σ := _) hw4)) ?_
    rintro _ w5 ⟨rfl, vm, lm, hm, hX⟩
    have hw5 := hX _ _ _ _ hw4
    simp only [List.cons_append, List.nil_append] at hw5
    try clear hX hw4
    refine l_call rfl rfl Try.func58 rfl rfl (.cons rfl .nil) (belowP vl ls (5 ^ n) hcn (five_pos n) (by have := five_blen n (by omega); omega) ((bl_fit ⟨n, by omega⟩).resolve_left (by show ¬ n = 0; omega)) w5 (hw5.io mem2)) ?_
    rintro _ w6 ⟨rfl, hG⟩
    have hw6 := hG _ _ _ _ hw5
    try clear hG hw5
    simp only [List.cons_append, List.nil_append] at hw6
    refine l_move rfl rfl rfl (l_extract rfl rfl rfl rfl (l_extract rfl rfl rfl rfl ?_))
    refine l_store_blks hw6 (.tail (.tail (.tail .head))) (.zero (.zero .nil)) rfl tz77 rfl rfl (by first | (simp [Value.oneCell']; done) | (intro u hu; simp only [List.mem_cons, List.not_mem_nil, or_false] at hu; rcases hu with rfl | rfl <;> first | rfl | assumption)) (fun w7 hw7 => ?_)
    try clear hw6
    refine l_assign rfl rfl rfl (l_nil ?_)
    have hw8 := St.del (.tail (.tail .head)) hw7
    try clear hw7
    have hw9 := St.del (.tail .head) hw8
    try clear hw8
    have hw10 := St.del .head hw9
    try clear hw9
    refine e_meetk (blM (5 ^ n), -(127 + Ma.blen (5 ^ n))) ?_ (.cons rfl .nil) ?_
    ·exact ⟨hw10, een⟩
    ·exact (.cons rfl (by first | rfl | (refine congrArg (Value.int _) ?_; omega)) .nil)
   ·skip
    refine c_region (l_move rfl rfl rfl ?_)
    obtain ⟨n, hn⟩ : ∃ n : Nat, q.toNat = n := ⟨_, rfl⟩
    refine l_turn (s := 23) (v' := .int .i64 (n : Int)) rfl (by refine congrArg (Value.int _) ?_; omega) ?_
    have een : entS q = (abM (5 ^ n), Ma.blen (5 ^ n) - 128, 0) := by unfold entS; rw [if_neg (by omega), if_neg hc1, hn]
    refine l_call rfl rfl Try.func59 rfl rfl (.cons rfl .nil) (powersP n (by omega) w1) ?_
    rintro _ w11 ⟨b, vl, ls, rfl, hcn, hG⟩
    have hw11 := hG _ _ _ _ hw1
    try clear hG hw1
    simp only [List.cons_append, List.nil_append] at hw11
    refine l_callv rfl rfl rfl Try.func69 rfl rfl .nil (nextP b vl ls n (by omega) hcn w11 (St.rows (τ := [As.blk b 95 [vl], As.ri 75 .u64 vl ls]) (σ := _) hw11)) ?_
    rintro _ w12 ⟨rfl, vm, lm, hm, hX⟩
    have hw12 := hX _ _ _ _ hw11
    simp only [List.cons_append, List.nil_append] at hw12
    try clear hX hw11
    refine l_call rfl rfl Try.func60 rfl rfl (.cons rfl .nil) (aboveP vl ls (5 ^ n) hcn (five_pos n) (by have := five_blen n (by omega); omega) w12 (hw12.io mem2)) ?_
    rintro _ w13 ⟨rfl, hG⟩
    have hw13 := hG _ _ _ _ hw12
    try clear hG hw12
    simp only [List.cons_append, List.nil_append] at hw13
    refine l_move rfl rfl rfl (l_extract rfl rfl rfl rfl (l_extract rfl rfl rfl rfl ?_))
    refine l_store_blks hw13 (.tail (.tail (.tail .head))) (.zero (.zero .nil)) rfl tz77 rfl rfl (by first | (simp [Value.oneCell']; done) | (intro u hu; simp only [List.mem_cons, List.not_mem_nil, or_false] at hu; rcases hu with rfl | rfl <;> first | rfl | assumption)) (fun w14 hw14 => ?_)
    try clear hw13
    refine l_assign rfl rfl rfl (l_nil ?_)
    have hw15 := St.del (.tail (.tail .head)) hw14
    try clear hw14
    have hw16 := St.del (.tail .head) hw15
    try clear hw15
    have hw17 := St.del .head hw16
    try clear hw16
    refine e_meetk (abM (5 ^ n), Ma.blen (5 ^ n) - 128) ?_ (.cons rfl .nil) ?_
    ·exact ⟨hw17, een⟩
    ·exact (.cons rfl (by first | rfl | (refine congrArg (Value.int _) ?_; omega)) .nil)
  rintro ⟨M, E⟩ w18 ⟨hw18, hen⟩
  show RunC P _ _ _ (_ :: _) _
  refine c_seq (c_region ?_)
  refine l_load_agg hw18 mem0 rfl rfl Try.underlying77 rfl tz77 rfl (.take (.take .nil)) ?_
  refine l_move rfl rfl rfl ?_
  refine l_store_blks hw18 .head (.zero (.zero .nil)) rfl tz77 rfl rfl (by first | (simp [Value.oneCell']; done) | (intro u hu; simp only [List.mem_cons, List.not_mem_nil, or_false] at hu; rcases hu with rfl | rfl <;> first | rfl | assumption)) (fun w19 hw19 => ?_)
  try clear hw18
  refine l_assign rfl rfl rfl (l_assign rfl rfl rfl (l_nil (e_then ?_)))
  refine c_keep [2, 3, 4] (.cons rfl (.cons rfl (.cons rfl .nil))) ?_
  refine c_ret ?_
  refine e_doneN Try.results43 (.cell rfl (load_agg_run hw19 mem0 Try.underlying77 rfl tz77 (.take (.take .nil))) (.tmp rfl (.tmp rfl .nil))) rfl ?_
  refine ⟨_, rfl, ?_⟩
  have hw20 := St.del .head hw19
  try clear hw19
  rw [hen]
  exact ⟨rfl, hw20.grows⟩
theorem e128 : (2 : Int) ^ 128 = 340282366920938463463374607431768211456 := by decide
def whereS (q : Int) : Int × Int × Int := if q < -342 ∨ 308 < q then (0, 0, 60) else ((q + 342) / 16, (q + 342) % 16, 0)
def firstS (s : Int) : Int × Int × Int := if s < 0 ∨ 41 ≤ s then (0, 0, 61) else (-342 + 16 * s, if s = 40 then 11 else 16, 0)
theorem whereP (q : Int) (hq : -9223372036854775808 ≤ q ∧ q ≤ 9223372036854775807) (w : World) :
  CallsV P 29 [.int .i64 q] w fun r w' => r = .tuple #[.int .i64 (whereS q).1, .int .i64 (whereS q).2.1, .int .i64 (whereS q).2.2] ∧ w = w' := by
 refine enterW Try.func29 rfl Try.ntmps29 rfl ?_
 refine c_seq (c_region (l_assign rfl rfl rfl (l_assign rfl rfl rfl (l_assign rfl rfl rfl (l_nil ?_)))))
 refine e_then ?_
 refine c_keep [0] (.cons rfl .nil) ?_
 refine c_seq (c_seq (c_region (l_move rfl rfl rfl ?_)))
 refine l_lss rfl rfl rfl rfl ?_
 refine l_move rfl rfl rfl ?_
 apply l_or 2 [0] rfl rfl (.cons rfl (.cons rfl .nil)) rfl rfl (fun _ => rfl) rfl rfl rfl
 ·intro hg1_3
  refine l_move rfl rfl rfl ?_
  refine l_gtr rfl rfl rfl rfl ?_
  refine l_nil ?_
  exact e_stays rfl (.cons rfl (congrArg Value.bool (decide_eq_false hg1_3).symm) (.cons rfl rfl .nil))
 refine l_nil (e_then ?_)
 refine c_keep [0, 11] (.cons rfl (.cons rfl .nil)) ?_
 first | refine c_cond rfl (fun hc0 => ?_) (fun hc0 => ?_) | refine c_condb rfl (fun hc0 => ?_) (fun hc0 => ?_)
 ·skip
  refine c_seq (c_region (l_assign rfl rfl rfl (l_assign rfl rfl rfl (l_assign rfl rfl rfl (l_nil ?_)))))
  refine e_then ?_
  refine c_keep [2, 3, 4] (.cons rfl (.cons rfl (.cons rfl .nil))) ?_
  refine c_ret ?_
  refine e_then_ret ?_
  refine e_doneN Try.results29 (.tmp rfl (.tmp rfl (.tmp rfl .nil))) rfl ?_
  refine ⟨_, rfl, ?_⟩
  have e : whereS q = (0, 0, 60) := if_pos hc0
  rw [e]
  exact ⟨rfl, rfl⟩
 ·skip
  refine c_skip (e_then ?_)
  refine c_keep [0] (.cons rfl .nil) ?_
  refine c_seq (c_region (l_move rfl rfl rfl ?_))
  refine l_sub rfl rfl rfl rfl (w_i64 (by omega)) ?_
  refine l_assign rfl rfl rfl (l_nil (e_then ?_))
  refine c_keep [5] (.cons rfl .nil) ?_
  refine c_seq (c_region (l_move rfl rfl rfl ?_))
  refine l_quo rfl rfl rfl rfl (by omega) (q_i64 (by omega)) ?_
  refine l_move rfl rfl rfl ?_
  refine l_rem rfl rfl rfl rfl (by omega) (r_pos (by omega)) ?_
  refine l_assign rfl rfl rfl (l_assign rfl rfl rfl (l_assign rfl rfl rfl (l_nil (e_then ?_))))
  refine c_keep [2, 3, 4] (.cons rfl (.cons rfl (.cons rfl .nil))) ?_
  refine c_ret ?_
  refine e_doneN Try.results29 (.tmp rfl (.tmp rfl (.tmp rfl .nil))) rfl ?_
  refine ⟨_, rfl, ?_⟩
  have e : whereS q = ((q + 342) / 16, (q + 342) % 16, 0) := if_neg hc0
  rw [e, Int.sub_neg]
  exact ⟨rfl, rfl⟩
theorem whereR (q : Int) (hq : -9223372036854775808 ≤ q ∧ q ≤ 9223372036854775807) (w : World) :
  CallsV P 19 [.int .i64 q] w fun r w' => r = .tuple #[.int .i64 (whereS q).1, .int .i64 (whereS q).2.1, .int .i64 (whereS q).2.2] ∧ w = w' := by
 refine enterW Try.func19 rfl Try.ntmps19 rfl ?_
 refine c_seq (c_region (l_assign rfl rfl rfl (l_assign rfl rfl rfl (l_assign rfl rfl rfl (l_nil ?_)))))
 refine e_then ?_
 refine c_keep [0] (.cons rfl .nil) ?_
 refine c_seq (c_seq (c_region (l_move rfl rfl rfl ?_)))
 refine l_lss rfl rfl rfl rfl ?_
 refine l_move rfl rfl rfl ?_
 apply l_or 2 [0] rfl rfl (.cons rfl (.cons rfl .nil)) rfl rfl (fun _ => rfl) rfl rfl rfl
 ·intro hg1_3
  refine l_move rfl rfl rfl ?_
  refine l_gtr rfl rfl rfl rfl ?_
  refine l_nil ?_
  exact e_stays rfl (.cons rfl (congrArg Value.bool (decide_eq_false hg1_3).symm) (.cons rfl rfl .nil))
 refine l_nil (e_then ?_)
 refine c_keep [0, 10] (.cons rfl (.cons rfl .nil)) ?_
 first | refine c_cond rfl (fun hc0 => ?_) (fun hc0 => ?_) | refine c_condb rfl (fun hc0 => ?_) (fun hc0 => ?_)
 ·skip
  refine c_seq (c_region (l_assign rfl rfl rfl (l_assign rfl rfl rfl (l_assign rfl rfl rfl (l_nil ?_)))))
  refine e_then ?_
  refine c_keep [2, 3, 4] (.cons rfl (.cons rfl (.cons rfl .nil))) ?_
  refine c_ret ?_
  refine e_then_ret ?_
  refine e_doneN Try.results19 (.tmp rfl (.tmp rfl (.tmp rfl .nil))) rfl ?_
  refine ⟨_, rfl, ?_⟩
  have e : whereS q = (0, 0, 60) := if_pos hc0
  rw [e]
  exact ⟨rfl, rfl⟩
 ·skip
  refine c_skip (e_then ?_)
  refine c_keep [0] (.cons rfl .nil) ?_
  refine c_seq (c_region (l_move rfl rfl rfl ?_))
  refine l_sub rfl rfl rfl rfl (w_i64 (by omega)) ?_
  refine l_quo rfl rfl rfl rfl (by omega) (q_i64 (by omega)) ?_
  refine l_move rfl rfl rfl ?_
  refine l_sub rfl rfl rfl rfl (w_i64 (by omega)) ?_
  refine l_rem rfl rfl rfl rfl (by omega) (r_pos (by omega)) ?_
  refine l_assign rfl rfl rfl (l_assign rfl rfl rfl (l_assign rfl rfl rfl (l_nil (e_then ?_))))
  refine c_keep [2, 3, 4] (.cons rfl (.cons rfl (.cons rfl .nil))) ?_
  refine c_ret ?_
  refine e_doneN Try.results19 (.tmp rfl (.tmp rfl (.tmp rfl .nil))) rfl ?_
  refine ⟨_, rfl, ?_⟩
  have e : whereS q = ((q + 342) / 16, (q + 342) % 16, 0) := if_neg hc0
  rw [e, Int.sub_neg]
  exact ⟨rfl, rfl⟩
theorem firstP (s : Int) (hs : -9223372036854775808 ≤ s ∧ s ≤ 9223372036854775807) (w : World) :
  CallsV P 72 [.int .i64 s] w fun r w' => r = .tuple #[.int .i64 (firstS s).1, .int .i64 (firstS s).2.1, .int .i64 (firstS s).2.2] ∧ w = w' := by
 refine enterW Try.func72 rfl Try.ntmps72 rfl ?_
 refine c_seq (c_region (l_assign rfl rfl rfl (l_assign rfl rfl rfl (l_assign rfl rfl rfl (l_nil ?_)))))
 refine e_then ?_
 refine c_keep [0] (.cons rfl .nil) ?_
 refine c_seq (c_seq (c_region (l_move rfl rfl rfl ?_)))
 refine l_lss rfl rfl rfl rfl ?_
 refine l_move rfl rfl rfl ?_
 apply l_or 2 [0] rfl rfl (.cons rfl (.cons rfl .nil)) rfl rfl (fun _ => rfl) rfl rfl rfl
 ·intro hg1_3
  refine l_move rfl rfl rfl ?_
  refine l_geq rfl rfl rfl rfl ?_
  refine l_nil ?_
  exact e_stays rfl (.cons rfl (congrArg Value.bool (decide_eq_false hg1_3).symm) (.cons rfl rfl .nil))
 refine l_nil (e_then ?_)
 refine c_keep [0, 10] (.cons rfl (.cons rfl .nil)) ?_
 first | refine c_cond rfl (fun hc0 => ?_) (fun hc0 => ?_) | refine c_condb rfl (fun hc0 => ?_) (fun hc0 => ?_)
 ·skip
  refine c_seq (c_region (l_assign rfl rfl rfl (l_assign rfl rfl rfl (l_assign rfl rfl rfl (l_nil ?_)))))
  refine e_then ?_
  refine c_keep [2, 3, 4] (.cons rfl (.cons rfl (.cons rfl .nil))) ?_
  refine c_ret ?_
  refine e_then_ret ?_
  refine e_doneN Try.results72 (.tmp rfl (.tmp rfl (.tmp rfl .nil))) rfl ?_
  refine ⟨_, rfl, ?_⟩
  have e : firstS s = (0, 0, 61) := if_pos hc0
  rw [e]
  exact ⟨rfl, rfl⟩
 ·skip
  refine c_skip (e_then ?_)
  refine c_keep [0] (.cons rfl .nil) ?_
  refine c_seq (c_region (l_move rfl rfl rfl ?_))
  refine l_mul rfl rfl rfl rfl (w_i64 (by omega)) ?_
  refine l_add rfl rfl rfl rfl (w_i64 (by omega)) ?_
  refine l_assign rfl rfl rfl (l_nil (e_then ?_))
  refine c_keep [2] (.cons rfl .nil) ?_
  refine c_seq (c_region (l_move rfl rfl rfl (l_move rfl rfl rfl ?_)))
  refine l_sub rfl rfl rfl rfl (w_i64 (by omega)) ?_
  refine l_min rfl rfl rfl rfl ?_
  refine l_assign rfl rfl rfl (l_assign rfl rfl rfl (l_assign rfl rfl rfl (l_nil (e_then ?_))))
  refine c_keep [2, 3, 4] (.cons rfl (.cons rfl (.cons rfl .nil))) ?_
  refine c_ret ?_
  refine e_doneN Try.results72 (.tmp rfl (.tmp rfl (.tmp rfl .nil))) rfl ?_
  refine ⟨_, rfl, ?_⟩
  have e : firstS s = (-342 + 16 * s, if s = 40 then 11 else 16, 0) := if_neg hc0
  rw [e, show min 16 (309 - (-342 + 16 * s)) = (if s = 40 then 11 else 16) from by split <;> omega]
  exact ⟨rfl, rfl⟩
theorem firstR (s : Int) (hs : -9223372036854775808 ≤ s ∧ s ≤ 9223372036854775807) (w : World) :
  CallsV P 25 [.int .i64 s] w fun r w' => r = .tuple #[.int .i64 (firstS s).1, .int .i64 (firstS s).2.1, .int .i64 (firstS s).2.2] ∧ w = w' := by
 refine enterW Try.func25 rfl Try.ntmps25 rfl ?_
 refine c_seq (c_region (l_assign rfl rfl rfl (l_assign rfl rfl rfl (l_assign rfl rfl rfl (l_nil ?_)))))
 refine e_then ?_
 refine c_keep [0] (.cons rfl .nil) ?_
 refine c_seq (c_seq (c_region (l_move rfl rfl rfl ?_)))
 refine l_lss rfl rfl rfl rfl ?_
 refine l_move rfl rfl rfl ?_
 apply l_or 2 [0] rfl rfl (.cons rfl (.cons rfl .nil)) rfl rfl (fun _ => rfl) rfl rfl rfl
 ·intro hg1_3
  refine l_move rfl rfl rfl ?_
  refine l_geq rfl rfl rfl rfl ?_
  refine l_nil ?_
  exact e_stays rfl (.cons rfl (congrArg Value.bool (decide_eq_false hg1_3).symm) (.cons rfl rfl .nil))
 refine l_nil (e_then ?_)
 refine c_keep [0, 11] (.cons rfl (.cons rfl .nil)) ?_
 first | refine c_cond rfl (fun hc0 => ?_) (fun hc0 => ?_) | refine c_condb rfl (fun hc0 => ?_) (fun hc0 => ?_)
 ·skip
  refine c_seq (c_region (l_assign rfl rfl rfl (l_assign rfl rfl rfl (l_assign rfl rfl rfl (l_nil ?_)))))
  refine e_then ?_
  refine c_keep [2, 3, 4] (.cons rfl (.cons rfl (.cons rfl .nil))) ?_
  refine c_ret ?_
  refine e_then_ret ?_
  refine e_doneN Try.results25 (.tmp rfl (.tmp rfl (.tmp rfl .nil))) rfl ?_
  refine ⟨_, rfl, ?_⟩
  have e : firstS s = (0, 0, 61) := if_pos hc0
  rw [e]
  exact ⟨rfl, rfl⟩
 ·skip
  refine c_skip (e_then ?_)
  refine c_keep [0] (.cons rfl .nil) ?_
  refine c_seq (c_region (l_assign rfl rfl rfl (l_nil (e_then ?_))))
  refine c_cutk (ι := Int) (fun (n : Int) (w' : World) => w = w' ∧ n = if s = 40 then 11 else 16) (fun (n : Int) => [(5, .int .i64 n)]) [0] (.cons rfl .nil) ?_ ?_
  ·skip
   refine c_seq (c_region (l_move rfl rfl rfl ?_))
   refine l_eql rfl rfl rfl rfl ?_
   refine l_nil (e_then ?_)
   refine c_keep [0, 5, 13] (.cons rfl (.cons rfl (.cons rfl .nil))) ?_
   first | refine c_cond rfl (fun hc1 => ?_) (fun hc1 => ?_) | refine c_condb rfl (fun hc1 => ?_) (fun hc1 => ?_)
   ·skip
    refine c_region (l_move rfl rfl rfl ?_)
    refine l_mul rfl rfl rfl rfl (w_i64 (by omega)) ?_
    refine l_sub rfl rfl rfl rfl (w_i64 (by omega)) ?_
    refine l_assign rfl rfl rfl (l_nil ?_)
    refine e_meetk (651 - 16 * s) ?_ (.cons rfl .nil) ?_
    ·exact ⟨rfl, by rw [if_pos hc1]; omega⟩
    ·exact (.cons rfl (by first | rfl | (refine congrArg (Value.int _) ?_; omega)) .nil)
   ·skip
    refine c_skip ?_
    refine e_meetk (16) ?_ (.cons rfl .nil) ?_
    ·exact ⟨rfl, by rw [if_neg hc1]⟩
    ·exact (.cons rfl (by first | rfl | (refine congrArg (Value.int _) ?_; omega)) .nil)
  rintro n _ ⟨rfl, hn⟩
  show RunC P _ _ _ (_ :: _) _
  refine c_seq (c_region (l_move rfl rfl rfl ?_))
  refine l_mul rfl rfl rfl rfl (w_i64 (by omega)) ?_
  refine l_add rfl rfl rfl rfl (w_i64 (by omega)) ?_
  refine l_move rfl rfl rfl (l_assign rfl rfl rfl (l_assign rfl rfl rfl (l_assign rfl rfl rfl (l_nil (e_then ?_)))))
  refine c_keep [2, 3, 4] (.cons rfl (.cons rfl (.cons rfl .nil))) ?_
  refine c_ret ?_
  refine e_doneN Try.results25 (.tmp rfl (.tmp rfl (.tmp rfl .nil))) rfl ?_
  refine ⟨_, rfl, ?_⟩
  have e : firstS s = (-342 + 16 * s, if s = 40 then 11 else 16, 0) := if_neg hc0
  rw [e, hn]
  exact ⟨rfl, rfl⟩
end Go.Proofs.Ytgfkagaacdblbaa.W
