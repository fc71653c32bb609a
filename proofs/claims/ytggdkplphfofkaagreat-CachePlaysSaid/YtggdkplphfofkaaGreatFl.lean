/- walks of nat.shr, Shr -/
import Derived.Test.YtggdkplphfofkaaGreatFk
set_option linter.unusedVariables false
set_option linter.unusedSimpArgs false
set_option maxRecDepth 10000
namespace Go.Proofs.YtggdkplphfofkaaGreat.W
open Go.Vc Go.RowKit
theorem or_high {x b : Int} {k : Nat} (hk : k ≤ 64) (hb : 0 ≤ b ∧ b < 2 ^ (64 - k)) : bitw .or .u64 b (x * 2 ^ (64 - k) % 18446744073709551616) = b + x % 2 ^ k * 2 ^ (64 - k) := by
 have := or_low (x := x) (b := b) (k := 64 - k) (by omega) hb
 rwa [show 64 - (64 - k) = k from by omega] at this
theorem high_lt {x : Int} {k : Nat} (hk : k ≤ 64) : 0 ≤ x % 2 ^ k ∧ x % 2 ^ k * 2 ^ (64 - k) + 2 ^ (64 - k) ≤ 18446744073709551616 := by
 have := shl_low_lt (x := x) (k := 64 - k) (by omega)
 rwa [show 64 - (64 - k) = k from by omega] at this
def shrS (x n : Int) : Int × Int × Bool := if 8192 < Ma.blen x then (21, 0, false) else if n < 0 then (23, 0, false) else (0, x / 2 ^ n.toNat, decide (¬ x % 2 ^ n.toNat = 0))
def LostR (w w' : World) (r : Value) (e n : Int) (b : Bool) : Prop := ∃ v ls, r = .tuple #[v, .bool b, .int .i64 e] ∧ Ma.Cn 18446744073709551616 ls n ∧ Grow w w' [As.ri 65 .u64 v ls]
theorem shrN (v : Value) (l : List Int) (hU : U l) (hL : l.length ≤ 68719476736) (N : Nat) (hN : N ≤ 1099511627776) (hq : N / 64 ≤ l.length) (w : World) (hv : IV w v (ints .u64 l)) :
  CallsV P 89 [v, .int .i64 (N : Int)] w fun r w' => ∃ v ls, r = v ∧ U ls ∧ ls.length = l.length - N / 64 ∧ nv ls = nv l / 2 ^ N ∧ Grow w w' [As.ri 65 .u64 v ls] := by
 refine enterW Tryz.func89 rfl Tryz.ntmps89 rfl ?_
 have hw0 := St.start w
 have hs64 : N % 64 < 64 := Nat.mod_lt _ (by omega)
 have hD0 := Ma.pow_pos (show (0 : Int) < 2 by omega) (N % 64)
 have hE0 := Ma.pow_pos (show (0 : Int) < 2 by omega) (64 - N % 64)
 have hDk : (2 : Int) ^ (min ((N : Int) % 64).toNat IntKind.u64.bits) = 2 ^ (N % 64) := by
  show (2 : Int) ^ (min ((N : Int) % 64).toNat 64) = _
  rw [show ((N : Int) % 64).toNat = N % 64 from by omega, Nat.min_eq_left (by omega)]
 have hEk : (2 : Int) ^ (min (64 - (N : Int) % 64).toNat IntKind.u64.bits) = 2 ^ (64 - N % 64) := by
  show (2 : Int) ^ (min (64 - (N : Int) % 64).toNat 64) = _
  rw [show (64 - (N : Int) % 64).toNat = 64 - N % 64 from by omega, Nat.min_eq_left (by omega)]
 have hU2 := hU.drop (N / 64)
 have hl2 : (l.drop (N / 64)).length = l.length - N / 64 := List.length_drop
 refine c_seq (c_region (l_assign rfl rfl rfl (l_nil (e_then ?_))))
 refine c_keep [0, 1] (.cons rfl (.cons rfl .nil)) ?_
 refine c_seq (c_region (l_move rfl rfl rfl (l_move rfl rfl rfl ?_)))
 refine l_quo rfl rfl rfl rfl (by omega) (q_i64 (by omega)) ?_
 refine v_cut (l := N / 64) (h := l.length) rfl rfl Tryz.underlying117 tz65 rfl rfl rfl rfl (by first | exact hw0.iarg hv2 | exact hw0.iarg hv | assumption) (by first | rfl | (simp; done) | (simp; omega)) (by first | rfl | (simp; done) | (simp; omega)) (.inl rfl) (by simp) (by omega) (by first | omega | (simp; omega) | (simp; done)) (fun v1_3 h1_3 ho1_3 => ?_)
 have hv2 : IV w v1_3 (ints .u64 (l.drop (N / 64))) := by
  rw [List.take_of_length_le (by simp), ← List.map_drop] at h1_3
  exact h1_3
 refine l_assign rfl rfl rfl (l_nil (e_then ?_))
 refine c_keep [0, 1] (.cons rfl (.cons rfl .nil)) ?_
 refine c_seq (c_region (l_move rfl rfl rfl ?_))
 refine v_leni rfl rfl Tryz.underlying117 rfl (by first | exact hw0.iarg hv2 | exact hw0.iarg hv | assumption) ?_
 refine v_make (m := (l.drop (N / 64)).length) (c := (l.drop (N / 64)).length) hw0 rfl rfl Tryz.underlying117 ti65 rfl rfl rfl (by omega) (by omega) (by omega) (by omega) (by omega) (fun v2_2 w1 hw1 => ?_)
 try clear hw0
 refine l_assign rfl rfl rfl (l_nil (e_then ?_))
 refine c_keep [0, 1, 5] (.cons rfl (.cons rfl (.cons rfl .nil))) ?_
 refine c_seq (c_seq (c_region ?_))
 have hw2z := hw1.cast (show [As.ro 65 v2_2 (List.replicate (l.drop (N / 64)).length (Value.int IntKind.u64 0))] = [As.ri 65 .u64 v2_2 (List.replicate (l.drop (N / 64)).length 0)] from by rw [ints_replicate])
 refine l_move rfl rfl rfl ?_
 refine v_leni rfl rfl Tryz.underlying117 rfl (by first | exact hw1.io mem0 | exact hw1.iarg hv2 | exact hw1.iarg hv | assumption) ?_
 refine l_move rfl rfl rfl (l_nil (e_then ?_))
 refine c_keep [0, 1, 5, 15, 16] (.cons rfl (.cons rfl (.cons rfl (.cons rfl (.cons rfl .nil))))) ?_
 refine c_block ?_
 refine c_loopk (ι := Nat × List Int) (fun (z0 : Nat × List Int) => match z0 with | ⟨i, o⟩ => (l.drop (N / 64)).length - i) (fun (z0 : Nat × List Int) (w' : World) => match z0 with | ⟨i, o⟩ => St w w.heap.size None' ([As.ri 65 .u64 v2_2 o]) w' ∧ i ≤ (l.drop (N / 64)).length ∧ o.length = (l.drop (N / 64)).length ∧ U o ∧ 2 ^ (N % 64) * nv (o.take i) + (l.drop (N / 64)).getD 0 0 % 2 ^ (N % 64) = nv ((l.drop (N / 64)).take i) + 18446744073709551616 ^ i * ((l.drop (N / 64)).getD i 0 % 2 ^ (N % 64))) (fun (z0 : Nat × List Int) => match z0 with | ⟨i, o⟩ => [(16, .int .i64 (i : Int))]) [0, 1, 5, 15] (0, List.replicate (l.drop (N / 64)).length 0) ?_ (.cons rfl (.cons rfl (.cons rfl (.cons rfl .nil)))) ?_ ?_
 ·exact ⟨hw2z, by omega, by simp, U.zeros _, by simp [Ma.vb]⟩
 ·exact (.cons rfl (by first | rfl | (refine congrArg (Value.int _) ?_; omega)) .nil)
 rintro ⟨i, o⟩ w2 ⟨hw2, hi, hol, hUo, hval⟩
 show RunC P _ _ _ (_ :: _) _
 refine c_seq (c_region ?_)
 refine l_lss rfl rfl rfl rfl ?_
 refine l_nil (e_then (c_seq ?_))
 first | refine c_cond rfl (fun hc0 => ?_) (fun hc0 => ?_) | refine c_condb rfl (fun hc0 => ?_) (fun hc0 => ?_)
 ·skip
  refine c_skip (e_then ?_)
  refine c_keep [0, 1, 5, 15, 16] (.cons rfl (.cons rfl (.cons rfl (.cons rfl (.cons rfl .nil))))) ?_
  refine c_cutk (ι := List Int) (fun (o2 : List Int) (w' : World) => St w w.heap.size None' ([As.ri 65 .u64 v2_2 o2]) w' ∧ o2 = o.set i ((l.drop (N / 64)).getD i 0 / 2 ^ (N % 64) + (l.drop (N / 64)).getD (i + 1) 0 % 2 ^ (N % 64) * 2 ^ (64 - N % 64))) (fun (o2 : List Int) => []) [0, 1, 5, 15, 16] (.cons rfl (.cons rfl (.cons rfl (.cons rfl (.cons rfl .nil))))) ?_ ?_
  ·skip
   refine c_block (c_seq (c_region (l_move rfl rfl rfl (l_assign rfl rfl rfl (l_nil ?_)))))
   refine e_then ?_
   refine c_keep [0, 1, 5, 6, 15, 16] (.cons rfl (.cons rfl (.cons rfl (.cons rfl (.cons rfl (.cons rfl .nil)))))) ?_
   refine c_seq (c_region (l_move rfl rfl rfl (l_move rfl rfl rfl (l_move rfl rfl rfl (l_move rfl rfl rfl ?_)))))
   refine v_getr rfl rfl rfl rfl Tryz.underlying117 tz65 Tryz.underlying65 rfl rfl (by first | exact hw2.io mem0 | exact hw2.iarg hv2 | exact hw2.iarg hv | assumption) (by assumption) rfl rfl (by first | omega | (simp; done) | (simp; omega)) (fun hb6_4 => ?_)
   refine l_move rfl rfl rfl ?_
   refine l_rem rfl rfl rfl rfl (by omega) (r_pos (by omega)) ?_
   refine l_shr rfl rfl rfl rfl (by omega) (shr_eq hDk (by omega)) ?_
   refine v_addrn rfl rfl Tryz.underlying117 tz65 rfl rfl (by first | exact hw2.io mem0 | exact hw2.iarg hv2 | exact hw2.iarg hv | assumption) rfl (by first | omega | (simp; done) | (simp; omega)) (fun A6_9 c6_9 hA6_9 => ?_)
   refine v_storei hw2 .head hA6_9 rfl tz65 rfl rfl (by first | omega | (simp; done) | (simp; omega)) (fun w3 hw3 => ?_)
   try clear hw2
   refine l_nil (e_then ?_)
   refine c_keep [0, 1, 5, 6, 15, 16] (.cons rfl (.cons rfl (.cons rfl (.cons rfl (.cons rfl (.cons rfl .nil)))))) ?_
   refine c_seq (c_region ?_)
   have hgx := getD_u hU2 i
   have hgy := getD_u hU2 (i + 1)
   have hx0 : 0 ≤ (l.drop (N / 64)).getD i 0 / 2 ^ (N % 64) := Int.ediv_nonneg hgx.1 (by omega)
   have hx1 : (l.drop (N / 64)).getD i 0 / 2 ^ (N % 64) < 2 ^ (64 - N % 64) := Int.ediv_lt_of_lt_mul hD0 (by rw [split64 (by omega)]; omega)
   have hy := high_lt (x := (l.drop (N / 64)).getD (i + 1) 0) (k := N % 64) (by omega)
   have hyE := Int.mul_nonneg hy.1 (Int.le_of_lt hE0)
   have hxx : 0 ≤ (l.drop (N / 64)).getD i 0 / 2 ^ (N % 64) ∧ (l.drop (N / 64)).getD i 0 / 2 ^ (N % 64) ≤ 18446744073709551615 := by omega
   have hos : (o.set i ((l.drop (N / 64)).getD i 0 / 2 ^ (N % 64))).length = o.length := List.length_set
   have hU1 : U (o.set i ((l.drop (N / 64)).getD i 0 / 2 ^ (N % 64))) := hUo.set hxx _
   refine l_move rfl rfl rfl ?_
   refine l_rem rfl rfl rfl rfl (by omega) (r_pos (by omega)) ?_
   refine l_gtr rfl rfl rfl rfl ?_
   refine l_nil (e_then ?_)
   refine c_keep [0, 1, 5, 6, 15, 16, 31] (.cons rfl (.cons rfl (.cons rfl (.cons rfl (.cons rfl (.cons rfl (.cons rfl .nil))))))) ?_
   first | refine c_cond rfl (fun hc1 => ?_) (fun hc1 => ?_) | refine c_condb rfl (fun hc1 => ?_) (fun hc1 => ?_)
   ·skip
    refine c_tail 14 (by kernel_rfl) (by kernel_rfl) ?_
    have hw4 := hw3.drewn
    try clear hw3
    refine l_move rfl rfl rfl (l_move rfl rfl rfl ?_)
    refine v_getr (j := i) rfl rfl rfl rfl Tryz.underlying117 tz65 Tryz.underlying65 rfl rfl (by first | exact hw4.io mem0 | exact hw4.iarg hv2 | exact hw4.iarg hv | assumption) (by assumption) rfl (by omega) (by first | omega | (simp; done) | (simp; omega)) (fun hb8_2 => ?_)
    refine l_turn (s := 35) (v' := .int .u64 ((l.drop (N / 64)).getD i 0 / 2 ^ (N % 64))) rfl (by rw [getD_set _ _ _ _ _ (by omega), if_pos rfl]) ?_
    refine l_move rfl rfl rfl (l_move rfl rfl rfl ?_)
    refine l_add rfl rfl rfl rfl (w_i64 (by omega)) ?_
    refine l_turn (s := 38) (v' := .int .i64 ((i + 1 : Nat) : Int)) rfl rfl ?_
    refine l_callp rfl rfl Tryz.func88 rfl rfl (.cons rfl (.cons rfl .nil)) (atN _ _ hU2 (i + 1) w3.drew (hw4.iarg hv2)) ?_
    refine l_move rfl rfl rfl ?_
    refine l_rem rfl rfl rfl rfl (by omega) (r_pos (by omega)) ?_
    refine l_sub rfl rfl rfl rfl (w_i64 (by omega)) ?_
    refine l_shl rfl rfl rfl rfl (by omega) (shl_eq hEk (w_u64m _)) ?_
    refine l_bits rfl rfl rfl rfl rfl (or_high (by omega) ⟨hx0, hx1⟩) ?_
    refine v_addrn (j := i) rfl rfl Tryz.underlying117 tz65 rfl rfl (by first | exact hw4.io mem0 | exact hw4.iarg hv2 | exact hw4.iarg hv | assumption) (by omega) (by first | omega | (simp; done) | (simp; omega)) (fun A8_13 c8_13 hA8_13 => ?_)
    refine l_nil ?_
    refine e_tail ?_
    refine v_storei hw4 .head hA8_13 rfl tz65 rfl rfl (by first | omega | (simp; done) | (simp; omega)) (fun w5 hw5 => ?_)
    try clear hw4
    refine l_nil ?_
    refine e_blk ?_
    refine e_meetk ((o.set i ((l.drop (N / 64)).getD i 0 / 2 ^ (N % 64))).set i ((l.drop (N / 64)).getD i 0 / 2 ^ (N % 64) + (l.drop (N / 64)).getD (i + 1) 0 % 2 ^ (N % 64) * 2 ^ (64 - N % 64))) ?_ (.cons rfl (.cons rfl (.cons rfl (.cons rfl (.cons rfl .nil))))) ?_
    ·exact ⟨hw5, by rw [List.set_set]⟩
    ·exact .nil
   ·skip
    refine c_skip ?_
    refine e_blk ?_
    refine e_meetk (o.set i ((l.drop (N / 64)).getD i 0 / 2 ^ (N % 64))) ?_ (.cons rfl (.cons rfl (.cons rfl (.cons rfl (.cons rfl .nil))))) ?_
    ·have hs0 : N % 64 = 0 := by omega
     refine ⟨hw3, ?_⟩
     congr 1
     rw [hs0, Int.pow_zero, Int.emod_one, Int.zero_mul, Int.add_zero]
    ·exact .nil
  rintro o2 w6 ⟨hw6, ho2⟩
  refine c_region ?_
  refine l_add rfl rfl rfl rfl (w_i64 (by omega)) ?_
  refine l_move rfl rfl rfl (l_nil ?_)
  refine e_againk (i := (i, o)) (i + 1, o.set i ((l.drop (N / 64)).getD i 0 / 2 ^ (N % 64) + (l.drop (N / 64)).getD (i + 1) 0 % 2 ^ (N % 64) * 2 ^ (64 - N % 64))) ?_ ?_ (.cons rfl (.cons rfl (.cons rfl (.cons rfl .nil)))) ?_
  ·first | omega | (simp; omega)
  ·have hgx := getD_u hU2 i
   have hgy := getD_u hU2 (i + 1)
   have hx0 : 0 ≤ (l.drop (N / 64)).getD i 0 / 2 ^ (N % 64) := Int.ediv_nonneg hgx.1 (by omega)
   have hx1 : (l.drop (N / 64)).getD i 0 / 2 ^ (N % 64) < 2 ^ (64 - N % 64) := Int.ediv_lt_of_lt_mul hD0 (by rw [split64 (by omega)]; omega)
   have hy := high_lt (x := (l.drop (N / 64)).getD (i + 1) 0) (k := N % 64) (by omega)
   have hyE := Int.mul_nonneg hy.1 (Int.le_of_lt hE0)
   have hxx : 0 ≤ (l.drop (N / 64)).getD i 0 / 2 ^ (N % 64) ∧ (l.drop (N / 64)).getD i 0 / 2 ^ (N % 64) ≤ 18446744073709551615 := by omega
   have h1 := Ma.vb_set 18446744073709551616 o i ((l.drop (N / 64)).getD i 0 / 2 ^ (N % 64) + (l.drop (N / 64)).getD (i + 1) 0 % 2 ^ (N % 64) * 2 ^ (64 - N % 64)) (by omega)
   have h2 := shr_step (x := (l.drop (N / 64)).getD i 0) (y := (l.drop (N / 64)).getD (i + 1) 0) (k := N % 64) (by omega) hval
   refine ⟨by rw [← ho2]; exact hw6, by omega, by simpa using hol, hUo.set ⟨by omega, by omega⟩ _, ?_⟩
   show _ * Ma.vb _ _ + _ = Ma.vb _ _ + _
   rw [h1, Ma.vb_take_succ, Int.pow_succ]
   exact h2
  ·exact (.cons rfl (by first | rfl | (refine congrArg (Value.int _) ?_; omega)) .nil)
 ·skip
  refine c_exit ?_
  refine e_then_exit ?_
  refine e_then_exit ?_
  refine e_blk_exit ?_
  refine e_then ?_
  refine c_keep [5] (.cons rfl .nil) ?_
  refine c_seq (c_region (l_move rfl rfl rfl (l_assign rfl rfl rfl (l_nil (e_then ?_)))))
  refine c_keep [4] (.cons rfl .nil) ?_
  refine c_ret ?_
  refine e_done1 Tryz.results89 rfl ?_
  refine ⟨_, rfl, ?_⟩
  obtain rfl : i = (l.drop (N / 64)).length := by omega
  rw [List.take_of_length_le (by omega), List.take_length] at hval
  have hg0 : (l.drop (N / 64)).getD (l.drop (N / 64)).length 0 = 0 := by simp [List.getD]
  rw [hg0, Int.zero_emod, Int.mul_zero, Int.add_zero] at hval
  have hm0 := Int.emod_nonneg ((l.drop (N / 64)).getD 0 0) (show (2 : Int) ^ (N % 64) ≠ 0 by omega)
  have hm1 := Int.emod_lt_of_pos ((l.drop (N / 64)).getD 0 0) hD0
  have hd := (div_of (n := nv (l.drop (N / 64))) (y := 2 ^ (N % 64)) (Q := nv o) (by rw [← hval, Int.mul_comm]) hm0 hm1).1
  refine ⟨_, _, rfl, hUo, by omega, ?_, hw2.grows⟩
  rw [← hd, nv_drop hU _ hq, Int.ediv_ediv_of_nonneg (Int.le_of_lt (Ma.pow_pos (by omega) _)), show (18446744073709551616 : Int) = 2 ^ 64 from rfl, ← Int.pow_mul, ← Int.pow_add, show 64 * (N / 64) + N % 64 = N from Nat.div_add_mod N 64]
theorem ShrN (v : Value) (l : List Int) (hU : U l) (hL : l.length ≤ 68719476736) (n : Int) (w : World) (hv : IV w v (ints .u64 l)) :
  CallsV P 71 [v, .int .i64 n] w fun r w' => LostR w w' r (shrS (nv l) n).1 (shrS (nv l) n).2.1 (shrS (nv l) n).2.2 := by
 refine enterW Tryz.func71 rfl Tryz.ntmps71 rfl ?_
 have hw0 := St.start w
 obtain ⟨A, c, rfl, hc, hs⟩ := hv
 have hv : IV w (.slice A (ints .u64 l).length c) (ints .u64 l) := ⟨A, c, rfl, hc, hs⟩
 have hvt := trim_iv hv
 have hta : (Ma.tr l).length ≤ l.length := (Ma.tr_take l).2.1
 have hb0 := Ma.blen_nonneg (nv l)
 clear hs
 refine c_seq (c_region (l_assign rfl rfl rfl (l_assign rfl rfl rfl (l_assign rfl rfl rfl (l_nil ?_)))))
 refine e_then ?_
 refine c_keep [0, 1] (.cons rfl (.cons rfl .nil)) ?_
 refine c_seq (c_block (c_seq (c_region (l_move rfl rfl rfl ?_))))
 refine l_callp rfl rfl Tryz.func78 rfl rfl (.cons rfl .nil) (longN A c l hU (by omega) w (hw0.iarg hv)) ?_
 refine l_assign rfl rfl rfl (l_nil (e_then ?_))
 refine c_keep [0, 1, 7] (.cons rfl (.cons rfl (.cons rfl .nil))) ?_
 first | refine c_cond rfl (fun hc0 => ?_) (fun hc0 => ?_) | refine c_condb rfl (fun hc0 => ?_) (fun hc0 => ?_)
 ·skip
  refine c_seq (c_region (l_assign rfl rfl rfl (l_assign rfl rfl rfl (l_assign rfl rfl rfl (l_nil ?_)))))
  refine e_then ?_
  refine c_keep [4, 5, 6] (.cons rfl (.cons rfl (.cons rfl .nil))) ?_
  refine c_ret ?_
  refine e_blk_ret ?_
  refine e_then_ret ?_
  refine e_doneN Tryz.results71 (.tmp rfl (.tmp rfl (.tmp rfl .nil))) rfl ?_
  refine ⟨_, rfl, ?_⟩
  have e : shrS (nv l) n = (21, 0, false) := if_pos hc0
  rw [e]
  exact ⟨_, _, rfl, Ma.Cn.nil, (hw0.nil 65).grows⟩
 ·skip
  refine c_seq (c_region (l_move rfl rfl rfl ?_))
  refine l_lss rfl rfl rfl rfl ?_
  refine l_assign rfl rfl rfl (l_nil (e_then ?_))
  refine c_keep [0, 1, 10] (.cons rfl (.cons rfl (.cons rfl .nil))) ?_
  first | refine c_cond rfl (fun hc1 => ?_) (fun hc1 => ?_) | refine c_condb rfl (fun hc1 => ?_) (fun hc1 => ?_)
  ·skip
   refine c_seq (c_region (l_assign rfl rfl rfl (l_assign rfl rfl rfl (l_assign rfl rfl rfl (l_nil ?_)))))
   refine e_then ?_
   refine c_keep [4, 5, 6] (.cons rfl (.cons rfl (.cons rfl .nil))) ?_
   refine c_ret ?_
   refine e_blk_ret ?_
   refine e_then_ret ?_
   refine e_doneN Tryz.results71 (.tmp rfl (.tmp rfl (.tmp rfl .nil))) rfl ?_
   refine ⟨_, rfl, ?_⟩
   have e : shrS (nv l) n = (23, 0, false) := by unfold shrS; rw [if_neg hc0, if_pos hc1]
   rw [e]
   exact ⟨_, _, rfl, Ma.Cn.nil, (hw0.nil 65).grows⟩
  ·skip
   refine c_seq (c_region (l_move rfl rfl rfl (l_move rfl rfl rfl ?_)))
   refine l_callp rfl rfl Tryz.func66 rfl rfl (.cons rfl .nil) (lenN A c l hU (by omega) w (hw0.iarg hv)) ?_
   refine l_geq rfl rfl rfl rfl ?_
   refine l_assign rfl rfl rfl (l_nil (e_then ?_))
   refine c_keep [0, 1, 13] (.cons rfl (.cons rfl (.cons rfl .nil))) ?_
   first | refine c_cond rfl (fun hc2 => ?_) (fun hc2 => ?_) | refine c_condb rfl (fun hc2 => ?_) (fun hc2 => ?_)
   ·skip
    refine c_seq (c_region (l_move rfl rfl rfl ?_))
    refine l_callp rfl rfl Tryz.func66 rfl rfl (.cons rfl .nil) (lenN A c l hU (by omega) w (hw0.iarg hv)) ?_
    refine l_gtr rfl rfl rfl rfl ?_
    refine l_assign rfl rfl rfl (l_assign rfl rfl rfl (l_assign rfl rfl rfl (l_nil (e_then ?_))))
    refine c_keep [4, 5, 6] (.cons rfl (.cons rfl (.cons rfl .nil))) ?_
    refine c_ret ?_
    refine e_blk_ret ?_
    refine e_then_ret ?_
    refine e_doneN Tryz.results71 (.tmp rfl (.tmp rfl (.tmp rfl .nil))) rfl ?_
    refine ⟨_, rfl, ?_⟩
    have hlt : nv l < 2 ^ n.toNat := (Ma.blen_le_iff hU.nv_nonneg n.toNat).1 (by omega)
    have e : shrS (nv l) n = (0, 0, decide (0 < Ma.blen (nv l))) := by
     unfold shrS
     rw [if_neg hc0, if_neg hc1, Int.ediv_eq_zero_of_lt hU.nv_nonneg hlt, Int.emod_eq_of_lt hU.nv_nonneg hlt]
     congr 2
     refine decide_eq_decide.2 ⟨fun h => Ma.blen_pos (by have := hU.nv_nonneg; omega), fun h h0 => ?_⟩
     rw [h0, Ma.blen_zero] at h
     omega
    rw [e]
    exact ⟨_, _, rfl, Ma.Cn.nil, (hw0.nil 65).grows⟩
   ·skip
    refine c_skip ?_
    refine e_blk ?_
    refine e_then ?_
    refine c_keep [0, 1] (.cons rfl (.cons rfl .nil)) ?_
    refine c_seq (c_region (l_move rfl rfl rfl ?_))
    refine l_callp rfl rfl Tryz.func79 rfl rfl (.cons rfl .nil) (trim A c l hU (by omega) w (hw0.iarg hv)) ?_
    refine l_assign rfl rfl rfl (l_nil (e_then ?_))
    refine c_keep [0, 1] (.cons rfl (.cons rfl .nil)) ?_
    refine c_seq (c_region ?_)
    have hcn : Ma.Cn 18446744073709551616 (Ma.tr l) (nv l) := Ma.Cn.of_tr hU.dg rfl
    have hlen := cn_len hcn (k := (Ma.blen (nv l)).toNat) (by omega)
    have hqn : n.toNat / 64 ≤ (Ma.tr l).length := by
     have h0 : 0 < (Ma.tr l).length := by
      rcases Nat.eq_zero_or_pos (Ma.tr l).length with h | h
      ·have := (hcn.nil_iff (by omega)).1 (List.eq_nil_of_length_eq_zero h)
       rw [this, Ma.blen_zero] at hc2
       omega
      ·exact h
     have hbw := blen_words hU.tr (Ma.tr_Tr l) h0
     have hy1 : Ma.blen ((Ma.tr l).getD ((Ma.tr l).length - 1) 0) ≤ 64 := (Ma.blen_le_iff (getD_u hU.tr _).1 64).2 (Int.lt_of_le_of_lt (getD_u hU.tr _).2 (by decide))
     rw [nv_tr] at hbw
     omega
    refine l_move rfl rfl rfl (l_move rfl rfl rfl ?_)
    refine l_turn (s := 24) (v' := .int .i64 ((n.toNat : Nat) : Int)) rfl (by rw [Int.toNat_of_nonneg (by omega)]) ?_
    refine l_call rfl rfl Tryz.func89 rfl rfl (.cons rfl (.cons rfl .nil)) (shrN _ (Ma.tr l) hU.tr (by omega) n.toNat (by omega) hqn w (hw0.iarg hvt)) ?_
    rintro vs w1 ⟨_, ls, rfl, hUs, hls, hns, hG⟩
    have hw1 := hG _ _ _ _ hw0
    try clear hG hw0
    simp only [List.cons_append, List.nil_append] at hw1
    refine l_call rfl rfl Tryz.func79 rfl rfl (.cons rfl .nil) (trim_turn hUs (by omega) (hw1.io mem0)) ?_
    rintro vt w2 ⟨_, rfl, hT⟩
    have hw2 := hT _ _ _ _ _ .head hw1
    try clear hT hw1
    refine l_assign rfl rfl rfl (l_nil (e_then ?_))
    refine c_keep [0, 1, 4] (.cons rfl (.cons rfl (.cons rfl .nil))) ?_
    refine c_seq (c_region (l_move rfl rfl rfl (l_move rfl rfl rfl (l_move rfl rfl rfl ?_))))
    have hlt : (Ma.tr ls).length ≤ ls.length := (Ma.tr_take ls).2.1
    refine l_turn (s := 29) (v' := .int .i64 ((n.toNat : Nat) : Int)) rfl (by rw [Int.toNat_of_nonneg (by omega)]) ?_
    refine l_call rfl rfl Tryz.func84 rfl rfl (.cons rfl (.cons rfl .nil)) (shlN _ (Ma.tr ls) hUs.tr (by omega) n.toNat (by omega) w2 (hw2.io mem0)) ?_
    rintro vx w3 ⟨_, lx, rfl, hUx, hlx, hnx, hG⟩
    have hw3 := hG _ _ _ _ hw2
    try clear hG hw2
    simp only [List.cons_append, List.nil_append] at hw3
    refine l_move rfl rfl rfl ?_
    refine l_call rfl rfl Tryz.func85 rfl rfl (.cons rfl (.cons rfl .nil)) (cmpN _ _ lx (Ma.tr l) hUx hU.tr (by omega) (by omega) w3 (hw3.io mem0) (hw3.iarg hvt)) ?_
    rintro _ w4 ⟨rfl, hG⟩
    have hw4 := hG _ _ _ _ hw3
    try clear hG hw3
    simp only [List.cons_append, List.nil_append] at hw4
    refine l_neq rfl rfl rfl rfl ?_
    refine l_assign rfl rfl rfl (l_assign rfl rfl rfl (l_assign rfl rfl rfl (l_nil (e_then ?_))))
    refine c_keep [4, 5, 6] (.cons rfl (.cons rfl (.cons rfl .nil))) ?_
    refine c_ret ?_
    refine e_doneN Tryz.results71 (.tmp rfl (.tmp rfl (.tmp rfl .nil))) rfl ?_
    refine ⟨_, rfl, ?_⟩
    have hw5 := St.del .head hw4
    try clear hw4
    rw [nv_tr] at hns hnx
    have hp := Ma.pow_pos (show (0 : Int) < 2 by omega) n.toNat
    have ed := Int.emod_add_mul_ediv (nv l) (2 ^ n.toNat)
    have e : shrS (nv l) n = (0, nv l / 2 ^ n.toNat, decide (¬ cmpI (nv lx) (nv (Ma.tr l)) = 0)) := by
     unfold shrS
     rw [if_neg hc0, if_neg hc1]
     congr 2
     refine decide_eq_decide.2 (not_congr ?_)
     rw [hnx, hns, nv_tr, Int.mul_comm]
     constructor
     ·intro h
      exact cmpI_eq (by omega)
     ·intro h
      have h1 := Int.emod_nonneg (nv l) (show (2 : Int) ^ n.toNat ≠ 0 by omega)
      rcases Int.lt_or_eq_of_le h1 with h2 | h2
      ·rw [cmpI_lt (by omega)] at h
       omega
      ·exact h2.symm
    rw [e]
    exact ⟨_, _, rfl, Ma.Cn.of_tr hUs.dg hns, hw5.grows⟩
end Go.Proofs.YtggdkplphfofkaaGreat.W
