/- walks of nat.shr, Shr -/
import Derived.Test.YtojjlipcjdaejaaDoorFk
set_option linter.unusedVariables false
set_option linter.unusedSimpArgs false
set_option maxRecDepth 10000
namespace Go.Proofs.YtojjlipcjdaejaaDoor.W
open Go.Vc Go.RowKit
theorem or_high {x b : Int} {k : Nat} (hk : k ≤ 64) (hb : 0 ≤ b ∧ b < 2 ^ (64 - k)) : bitw .or .u64 b (x * 2 ^ (64 - k) % 18446744073709551616) = b + x % 2 ^ k * 2 ^ (64 - k) := by
 have := or_low (x := x) (b := b) (k := 64 - k) (by omega) hb
 rwa [show 64 - (64 - k) = k from by omega] at this
theorem high_lt {x : Int} {k : Nat} (hk : k ≤ 64) : 0 ≤ x % 2 ^ k ∧ x % 2 ^ k * 2 ^ (64 - k) + 2 ^ (64 - k) ≤ 18446744073709551616 := by
 have := shl_low_lt (x := x) (k := 64 - k) (by omega)
 rwa [show 64 - (64 - k) = k from by omega] at this
theorem shrN (v : Value) (l : List Int) (hU : U l) (hL : l.length ≤ 68719476736) (N : Nat) (hN : N ≤ 1099511627776) (hq : N / 64 ≤ l.length) (w : World) (hv : IV w v (ints .u64 l)) :
  CallsV P 84 [v, .int .i64 (N : Int)] w fun r w' => ∃ v ls, r = v ∧ U ls ∧ ls.length = l.length - N / 64 ∧ nv ls = nv l / 2 ^ N ∧ Grow w w' [As.ri 22 .u64 v ls] := by
 refine enterW Tryd.func84 rfl Tryd.ntmps84 rfl ?_
 have hw0 := St.start w
 have hs64 : N % 64 < 64 := Nat.mod_lt _ (by omega)
 have hD0 := Ma.pow_pos (show (0 : Int) < 2 by omega) (N % 64)
 have hE0 := Ma.pow_pos (show (0 : Int) < 2 by omega) (64 - N % 64)
 have hDk : (2 : Int) ^ (min ((N : Int) % 64).toNat IntKind.u64.bits) = 2 ^ (N % 64) := by
  show (2 : Int) ^ (min ((N : Int) % 64).toNat 64) = _
  rw [show ((N : Int) % 64).toNat = N % 64 from by omega, Nat.min_eq_left (by omega)]
 have hEk : (2 : Int) ^ (min (64 - (N : Int) % 64).toNat IntKind.u64.bits) = 2 ^ (64 - N % 64) := by
  show (2 : Int) ^ (min (64 - (N : Int) % 64).toNat 64) = _
  rw [show (64 - (N : Int) % 64).toNat = 64 - N % 64 from by omega, Nat.min_eq_left (by omega)]
 have hU2 := hU.drop (N / 64)
 have hl2 : (l.drop (N / 64)).length = l.length - N / 64 := List.length_drop
 refine c_seq (c_region (l_assign rfl rfl rfl (l_nil (e_then ?_))))
 refine c_keep [0, 1] (.cons rfl (.cons rfl .nil)) ?_
 refine c_seq (c_region (l_move rfl rfl rfl (l_move rfl rfl rfl ?_)))
 refine l_quo rfl rfl rfl rfl (by omega) (q_i64 (by omega)) ?_
 refine v_cut (l := N / 64) (h := l.length) rfl rfl Tryd.underlying62 tz22 rfl rfl rfl rfl (by first | exact hw0.iarg hv2 | exact hw0.iarg hv | assumption) (by first | rfl | (simp; done) | (simp; omega)) (by first | rfl | (simp; done) | (simp; omega)) (.inl rfl) (by simp) (by omega) (by first | omega | (simp; omega) | (simp; done)) (fun v1_3 h1_3 ho1_3 => ?_)
 have hv2 : IV w v1_3 (ints .u64 (l.drop (N / 64))) := by
  rw [List.take_of_length_le (by simp), ← List.map_drop] at h1_3
  exact h1_3
 refine l_assign rfl rfl rfl (l_nil (e_then ?_))
 refine c_keep [0, 1] (.cons rfl (.cons rfl .nil)) ?_
 refine c_seq (c_region (l_move rfl rfl rfl ?_))
 refine v_leni rfl rfl Tryd.underlying62 rfl (by first | exact hw0.iarg hv2 | exact hw0.iarg hv | assumption) ?_
 refine v_make (m := (l.drop (N / 64)).length) (c := (l.drop (N / 64)).length) hw0 rfl rfl Tryd.underlying62 ti22 rfl rfl rfl (by omega) (by omega) (by omega) (by omega) (by omega) (fun v2_2 w1 hw1 => ?_)
 try clear hw0
 refine l_assign rfl rfl rfl (l_nil (e_then ?_))
 refine c_keep [0, 1, 5] (.cons rfl (.cons rfl (.cons rfl .nil))) ?_
 refine c_seq (c_seq (c_region ?_))
 have hw2z := hw1.cast (show [As.ro 22 v2_2 (List.replicate (l.drop (N / 64)).length (Value.int IntKind.u64 0))] = [As.ri 22 .u64 v2_2 (List.replicate (l.drop (N / 64)).length 0)] from by rw [ints_replicate])
 refine l_move rfl rfl rfl ?_
 refine v_leni rfl rfl Tryd.underlying62 rfl (by first | exact hw1.io mem0 | exact hw1.iarg hv2 | exact hw1.iarg hv | assumption) ?_
 refine l_move rfl rfl rfl (l_nil (e_then ?_))
 refine c_keep [0, 1, 5, 15, 16] (.cons rfl (.cons rfl (.cons rfl (.cons rfl (.cons rfl .nil))))) ?_
 refine c_block ?_
 refine c_loopk (ι := Nat × List Int) (fun (z0 : Nat × List Int) => match z0 with | ⟨i, o⟩ => (l.drop (N / 64)).length - i) (fun (z0 : Nat × List Int) (w' : World) => match z0 with | ⟨i, o⟩ => St w w.heap.size None' ([As.ri 22 .u64 v2_2 o]) w' ∧ i ≤ (l.drop (N / 64)).length ∧ o.length = (l.drop (N / 64)).length ∧ U o ∧ 2 ^ (N % 64) * nv (o.take i) + (l.drop (N / 64)).getD 0 0 % 2 ^ (N % 64) = nv ((l.drop (N / 64)).take i) + 18446744073709551616 ^ i * ((l.drop (N / 64)).getD i 0 % 2 ^ (N % 64))) (fun (z0 : Nat × List Int) => match z0 with | ⟨i, o⟩ => [(16, .int .i64 (i : Int))]) [0, 1, 5, 15] (0, List.replicate (l.drop (N / 64)).length 0) ?_ (.cons rfl (.cons rfl (.cons rfl (.cons rfl .nil)))) ?_ ?_
 ·exact ⟨hw2z, by omega, by simp, U.zeros _, by simp [Ma.vb]⟩
 ·exact (.cons rfl (by first | rfl | (refine congrArg (Value.int _) ?_; omega)) .nil)
 rintro ⟨i, o⟩ w2 ⟨hw2, hi, hol, hUo, hval⟩
 show RunC P _ _ _ (_ :: _) _
 refine c_seq (c_region ?_)
 refine l_lss rfl rfl rfl rfl ?_
 refine l_nil (e_then (c_seq ?_))
 first | refine c_cond rfl (fun hc0 => ?_) (fun hc0 => ?_) | refine c_condb rfl (fun hc0 => ?_) (fun hc0 => ?_)
 ·skip
  refine c_skip (e_then ?_)
  refine c_keep [0, 1, 5, 15, 16] (.cons rfl (.cons rfl (.cons rfl (.cons rfl (.cons rfl .nil))))) ?_
  refine c_cutk (ι := List Int) (fun (o2 : List Int) (w' : World) => St w w.heap.size None' ([As.ri 22 .u64 v2_2 o2]) w' ∧ o2 = o.set i ((l.drop (N / 64)).getD i 0 / 2 ^ (N % 64) + (l.drop (N / 64)).getD (i + 1) 0 % 2 ^ (N % 64) * 2 ^ (64 - N % 64))) (fun (o2 : List Int) => []) [0, 1, 5, 15, 16] (.cons rfl (.cons rfl (.cons rfl (.cons rfl (.cons rfl .nil))))) ?_ ?_
  ·skip
   refine c_block (c_seq (c_region (l_move rfl rfl rfl (l_assign rfl rfl rfl (l_nil ?_)))))
   refine e_then ?_
   refine c_keep [0, 1, 5, 6, 15, 16] (.cons rfl (.cons rfl (.cons rfl (.cons rfl (.cons rfl (.cons rfl .nil)))))) ?_
   refine c_seq (c_region (l_move rfl rfl rfl (l_move rfl rfl rfl (l_move rfl rfl rfl (l_move rfl rfl rfl ?_)))))
   refine v_getr rfl rfl rfl rfl Tryd.underlying62 tz22 Tryd.underlying22 rfl rfl (by first | exact hw2.io mem0 | exact hw2.iarg hv2 | exact hw2.iarg hv | assumption) (by assumption) rfl rfl (by first | omega | (simp; done) | (simp; omega)) (fun hb6_4 => ?_)
   refine l_move rfl rfl rfl ?_
   refine l_rem rfl rfl rfl rfl (by omega) (r_pos (by omega)) ?_
   refine l_shr rfl rfl rfl rfl (by omega) (shr_eq hDk (by omega)) ?_
   refine v_addrn rfl rfl Tryd.underlying62 tz22 rfl rfl (by first | exact hw2.io mem0 | exact hw2.iarg hv2 | exact hw2.iarg hv | assumption) rfl (by first | omega | (simp; done) | (simp; omega)) (fun A6_9 c6_9 hA6_9 => ?_)
   refine v_storei hw2 .head hA6_9 rfl tz22 rfl rfl (by first | omega | (simp; done) | (simp; omega)) (fun w3 hw3 => ?_)
   try clear hw2
   refine l_nil (e_then ?_)
   refine c_keep [0, 1, 5, 6, 15, 16] (.cons rfl (.cons rfl (.cons rfl (.cons rfl (.cons rfl (.cons rfl .nil)))))) ?_
   refine c_seq (c_region ?_)
   have hgx := getD_u hU2 i
   have hgy := getD_u hU2 (i + 1)
   have hx0 : 0 ≤ (l.drop (N / 64)).getD i 0 / 2 ^ (N % 64) := Int.ediv_nonneg hgx.1 (by omega)
   have hx1 : (l.drop (N / 64)).getD i 0 / 2 ^ (N % 64) < 2 ^ (64 - N % 64) := Int.ediv_lt_of_lt_mul hD0 (by rw [split64 (by omega)]; omega)
   have hy := high_lt (x := (l.drop (N / 64)).getD (i + 1) 0) (k := N % 64) (by omega)
   have hyE := Int.mul_nonneg hy.1 (Int.le_of_lt hE0)
   have hxx : 0 ≤ (l.drop (N / 64)).getD i 0 / 2 ^ (N % 64) ∧ (l.drop (N / 64)).getD i 0 / 2 ^ (N % 64) ≤ 18446744073709551615 := by omega
   have hos : (o.set i ((l.drop (N / 64)).getD i 0 / 2 ^ (N % 64))).length = o.length := List.length_set
   have hU1 : U (o.set i ((l.drop (N / 64)).getD i 0 / 2 ^ (N % 64))) := hUo.set hxx _
   refine l_move rfl rfl rfl ?_
   refine l_rem rfl rfl rfl rfl (by omega) (r_pos (by omega)) ?_
   refine l_gtr rfl rfl rfl rfl ?_
   refine l_nil (e_then ?_)
   refine c_keep [0, 1, 5, 6, 15, 16, 31] (.cons rfl (.cons rfl (.cons rfl (.cons rfl (.cons rfl (.cons rfl (.cons rfl .nil))))))) ?_
   first | refine c_cond rfl (fun hc1 => ?_) (fun hc1 => ?_) | refine c_condb rfl (fun hc1 => ?_) (fun hc1 => ?_)
   ·skip
    refine c_tail 14 (by kernel_rfl) (by kernel_rfl) ?_
    have hw4 := hw3.drewn
    try clear hw3
    refine l_move rfl rfl rfl (l_move rfl rfl rfl ?_)
    refine v_getr (j := i) rfl rfl rfl rfl Tryd.underlying62 tz22 Tryd.underlying22 rfl rfl (by first | exact hw4.io mem0 | exact hw4.iarg hv2 | exact hw4.iarg hv | assumption) (by assumption) rfl (by omega) (by first | omega | (simp; done) | (simp; omega)) (fun hb8_2 => ?_)
    refine l_turn (s := 35) (v' := .int .u64 ((l.drop (N / 64)).getD i 0 / 2 ^ (N % 64))) rfl (by rw [getD_set _ _ _ _ _ (by omega), if_pos rfl]) ?_
    refine l_move rfl rfl rfl (l_move rfl rfl rfl ?_)
    refine l_add rfl rfl rfl rfl (w_i64 (by omega)) ?_
    refine l_turn (s := 38) (v' := .int .i64 ((i + 1 : Nat) : Int)) rfl rfl ?_
    refine l_callp rfl rfl Tryd.func61 rfl rfl (.cons rfl (.cons rfl .nil)) (atN _ _ hU2 (i + 1) w3.drew (hw4.iarg hv2)) ?_
    refine l_move rfl rfl rfl ?_
    refine l_rem rfl rfl rfl rfl (by omega) (r_pos (by omega)) ?_
    refine l_sub rfl rfl rfl rfl (w_i64 (by omega)) ?_
    refine l_shl rfl rfl rfl rfl (by omega) (shl_eq hEk (w_u64m _)) ?_
    refine l_bits rfl rfl rfl rfl rfl (or_high (by omega) ⟨hx0, hx1⟩) ?_
    refine v_addrn (j := i) rfl rfl Tryd.underlying62 tz22 rfl rfl (by first | exact hw4.io mem0 | exact hw4.iarg hv2 | exact hw4.iarg hv | assumption) (by omega) (by first | omega | (simp; done) | (simp; omega)) (fun A8_13 c8_13 hA8_13 => ?_)
    refine l_nil ?_
    refine e_tail ?_
    refine v_storei hw4 .head hA8_13 rfl tz22 rfl rfl (by first | omega | (simp; done) | (simp; omega)) (fun w5 hw5 => ?_)
    try clear hw4
    refine l_nil ?_
    refine e_blk ?_
    refine e_meetk ((o.set i ((l.drop (N / 64)).getD i 0 / 2 ^ (N % 64))).set i ((l.drop (N / 64)).getD i 0 / 2 ^ (N % 64) + (l.drop (N / 64)).getD (i + 1) 0 % 2 ^ (N % 64) * 2 ^ (64 - N % 64))) ?_ (.cons rfl (.cons rfl (.cons rfl (.cons rfl (.cons rfl .nil))))) ?_
    ·exact ⟨hw5, by rw [List.set_set]⟩
    ·exact .nil
   ·skip
    refine c_skip ?_
    refine e_blk ?_
    refine e_meetk (o.set i ((l.drop (N / 64)).getD i 0 / 2 ^ (N % 64))) ?_ (.cons rfl (.cons rfl (.cons rfl (.cons rfl (.cons rfl .nil))))) ?_
    ·have hs0 : N % 64 = 0 := by omega
     refine ⟨hw3, ?_⟩
     congr 1
     rw [hs0, Int.pow_zero, Int.emod_one, Int.zero_mul, Int.add_zero]
    ·exact .nil
  rintro o2 w6 ⟨hw6, ho2⟩
  refine c_region ?_
  refine l_add rfl rfl rfl rfl (w_i64 (by omega)) ?_
  refine l_move rfl rfl rfl (l_nil ?_)
  refine e_againk (i := (i, o)) (i + 1, o.set i ((l.drop (N / 64)).getD i 0 / 2 ^ (N % 64) + (l.drop (N / 64)).getD (i + 1) 0 % 2 ^ (N % 64) * 2 ^ (64 - N % 64))) ?_ ?_ (.cons rfl (.cons rfl (.cons rfl (.cons rfl .nil)))) ?_
  ·first | omega | (simp; omega)
  ·have hgx := getD_u hU2 i
   have hgy := getD_u hU2 (i + 1)
   have hx0 : 0 ≤ (l.drop (N / 64)).getD i 0 / 2 ^ (N % 64) := Int.ediv_nonneg hgx.1 (by omega)
   have hx1 : (l.drop (N / 64)).getD i 0 / 2 ^ (N % 64) < 2 ^ (64 - N % 64) := Int.ediv_lt_of_lt_mul hD0 (by rw [split64 (by omega)]; omega)
   have hy := high_lt (x := (l.drop (N / 64)).getD (i + 1) 0) (k := N % 64) (by omega)
   have hyE := Int.mul_nonneg hy.1 (Int.le_of_lt hE0)
   have hxx : 0 ≤ (l.drop (N / 64)).getD i 0 / 2 ^ (N % 64) ∧ (l.drop (N / 64)).getD i 0 / 2 ^ (N % 64) ≤ 18446744073709551615 := by omega
   have h1 := Ma.vb_set 18446744073709551616 o i ((l.drop (N / 64)).getD i 0 / 2 ^ (N % 64) + (l.drop (N / 64)).getD (i + 1) 0 % 2 ^ (N % 64) * 2 ^ (64 - N % 64)) (by omega)
   have h2 := shr_step (x := (l.drop (N / 64)).getD i 0) (y := (l.drop (N / 64)).getD (i + 1) 0) (k := N % 64) (by omega) hval
   refine ⟨by rw [← ho2]; exact hw6, by omega, by simpa using hol, hUo.set ⟨by omega, by omega⟩ _, ?_⟩
   show _ * Ma.vb _ _ + _ = Ma.vb _ _ + _
   rw [h1, Ma.vb_take_succ, Int.pow_succ]
   exact h2
  ·exact (.cons rfl (by first | rfl | (refine congrArg (Value.int _) ?_; omega)) .nil)
 ·skip
  refine c_exit ?_
  refine e_then_exit ?_
  refine e_then_exit ?_
  refine e_blk_exit ?_
  refine e_then ?_
  refine c_keep [5] (.cons rfl .nil) ?_
  refine c_seq (c_region (l_move rfl rfl rfl (l_assign rfl rfl rfl (l_nil (e_then ?_)))))
  refine c_keep [4] (.cons rfl .nil) ?_
  refine c_ret ?_
  refine e_done1 Tryd.results84 rfl ?_
  refine ⟨_, rfl, ?_⟩
  obtain rfl : i = (l.drop (N / 64)).length := by omega
  rw [List.take_of_length_le (by omega), List.take_length] at hval
  have hg0 : (l.drop (N / 64)).getD (l.drop (N / 64)).length 0 = 0 := by simp [List.getD]
  rw [hg0, Int.zero_emod, Int.mul_zero, Int.add_zero] at hval
  have hm0 := Int.emod_nonneg ((l.drop (N / 64)).getD 0 0) (show (2 : Int) ^ (N % 64) ≠ 0 by omega)
  have hm1 := Int.emod_lt_of_pos ((l.drop (N / 64)).getD 0 0) hD0
  have hd := (div_of (n := nv (l.drop (N / 64))) (y := 2 ^ (N % 64)) (Q := nv o) (by rw [← hval, Int.mul_comm]) hm0 hm1).1
  refine ⟨_, _, rfl, hUo, by omega, ?_, hw2.grows⟩
  rw [← hd, nv_drop hU _ hq, Int.ediv_ediv_of_nonneg (Int.le_of_lt (Ma.pow_pos (by omega) _)), show (18446744073709551616 : Int) = 2 ^ 64 from rfl, ← Int.pow_mul, ← Int.pow_add, show 64 * (N / 64) + N % 64 = N from Nat.div_add_mod N 64]
end Go.Proofs.YtojjlipcjdaejaaDoor.W
