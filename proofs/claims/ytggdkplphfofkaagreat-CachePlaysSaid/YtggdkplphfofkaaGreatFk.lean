/- walks of nat.shl, shr, Shl, Shr -/
import Derived.Test.YtggdkplphfofkaaGreatFi
set_option linter.unusedVariables false
set_option linter.unusedSimpArgs false
set_option maxRecDepth 10000
namespace Go.Proofs.YtggdkplphfofkaaGreat.W
open Go.Vc Go.RowKit
theorem or_comm' (a b : Int) : bitw .or .u64 a b = bitw .or .u64 b a := by
 show IntKind.u64.wrap _ = IntKind.u64.wrap _
 rw [BitVec.or_comm]
theorem split64 {k : Nat} (hk : k ≤ 64) : (2 : Int) ^ (64 - k) * 2 ^ k = 18446744073709551616 := by rw [← Int.pow_add, show 64 - k + k = 64 from by omega]; rfl
theorem shl_low {x : Int} {k : Nat} (hk : k ≤ 64) : x * 2 ^ k % 18446744073709551616 = x % 2 ^ (64 - k) * 2 ^ k := by
 rw [← split64 hk, Int.mul_comm x, Int.mul_comm (2 ^ (64 - k)), Int.mul_emod_mul_of_pos _ _ (Ma.pow_pos (by omega) k), Int.mul_comm]
theorem shl_low_lt {x : Int} {k : Nat} (hk : k ≤ 64) : 0 ≤ x % 2 ^ (64 - k) ∧ x % 2 ^ (64 - k) * 2 ^ k + 2 ^ k ≤ 18446744073709551616 := by
 have hE := Ma.pow_pos (show (0 : Int) < 2 by omega) (64 - k)
 have hD := Ma.pow_pos (show (0 : Int) < 2 by omega) k
 have h1 := Int.emod_nonneg x (show (2 : Int) ^ (64 - k) ≠ 0 by omega)
 have h2 := Int.emod_lt_of_pos x hE
 have h3 : (x % 2 ^ (64 - k) + 1) * 2 ^ k ≤ 2 ^ (64 - k) * 2 ^ k := Int.mul_le_mul_of_nonneg_right (by omega) (by omega)
 rw [split64 hk, Int.add_mul, Int.one_mul] at h3
 exact ⟨h1, h3⟩
theorem or_low {x b : Int} {k : Nat} (hk : k ≤ 64) (hb : 0 ≤ b ∧ b < 2 ^ k) : bitw .or .u64 b (x * 2 ^ k % 18446744073709551616) = b + x % 2 ^ (64 - k) * 2 ^ k := by
 have h := shl_low_lt (x := x) hk
 have hD := Ma.pow_pos (show (0 : Int) < 2 by omega) k
 rw [shl_low hk, or_comm', or_add k hk ⟨h.1, by omega⟩ hb, Int.add_comm]
theorem getD_rep (n j : Nat) : (List.replicate n (0 : Int)).getD j 0 = 0 := by simp [List.getD, List.getElem?_replicate]; split <;> rfl
theorem shl_step {p V A x o : Int} {k : Nat} (hk : k ≤ 64) (h : V = p * 2 ^ k * A) (B : Int) : V + p * B * ((o + x % 2 ^ (64 - k) * 2 ^ k) - o) + p * B * 18446744073709551616 * (x / 2 ^ (64 - k)) = p * 2 ^ k * (A + B * x) := by
 have e := Int.emod_add_mul_ediv x (2 ^ (64 - k))
 have e2 : x % 2 ^ (64 - k) * 2 ^ k + 18446744073709551616 * (x / 2 ^ (64 - k)) = 2 ^ k * x := by
  rw [← split64 hk, Int.mul_comm (2 ^ (64 - k)) (2 ^ k), Int.mul_assoc, Int.mul_comm (x % 2 ^ (64 - k)), ← Int.mul_add, e]
 have e3 : p * B * ((o + x % 2 ^ (64 - k) * 2 ^ k) - o) + p * B * 18446744073709551616 * (x / 2 ^ (64 - k)) = p * B * (2 ^ k * x) := by
  rw [show o + x % 2 ^ (64 - k) * 2 ^ k - o = x % 2 ^ (64 - k) * 2 ^ k from by omega, Int.mul_assoc (p * B), ← Int.mul_add, e2]
 rw [Int.add_assoc, e3, h, Int.mul_add]
 congr 1
 rw [Int.mul_assoc, Int.mul_assoc, Int.mul_left_comm B]
theorem set_top {l : List Int} (q i : Nat) (x y : Int) (hi : q + i + 1 < l.length) (hz : l.getD (q + i + 1) 0 = 0) : nv ((l.set (q + i) x).set (q + i + 1) y) = nv l + 18446744073709551616 ^ (q + i) * (x - l.getD (q + i) 0) + 18446744073709551616 ^ (q + i) * 18446744073709551616 * y := by
 show Ma.vb _ _ = _
 rw [Ma.vb_set_at _ _ _ _ (by simp; omega), Ma.vb_set_at _ _ _ _ (by omega), getD_set_ne _ (by omega), hz, Int.sub_zero, Int.pow_succ]
theorem shlN (v : Value) (l : List Int) (hU : U l) (hL : l.length ≤ 68719476736) (N : Nat) (hN : N ≤ 1099511627776) (w : World) (hv : IV w v (ints .u64 l)) :
  CallsV P 84 [v, .int .i64 (N : Int)] w fun r w' => ∃ v ls, r = v ∧ U ls ∧ ls.length = l.length + N / 64 + 1 ∧ nv ls = nv l * 2 ^ N ∧ Grow w w' [As.ri 65 .u64 v ls] := by
 refine enterW Tryz.func84 rfl Tryz.ntmps84 rfl ?_
 have hw0 := St.start w
 have hs64 : N % 64 < 64 := Nat.mod_lt _ (by omega)
 have hD0 := Ma.pow_pos (show (0 : Int) < 2 by omega) (N % 64)
 have hE0 := Ma.pow_pos (show (0 : Int) < 2 by omega) (64 - N % 64)
 have hDk : (2 : Int) ^ (min ((N : Int) % 64).toNat IntKind.u64.bits) = 2 ^ (N % 64) := by
  show (2 : Int) ^ (min ((N : Int) % 64).toNat 64) = _
  rw [show ((N : Int) % 64).toNat = N % 64 from by omega, Nat.min_eq_left (by omega)]
 have hEk : (2 : Int) ^ (min (64 - (N : Int) % 64).toNat IntKind.u64.bits) = 2 ^ (64 - N % 64) := by
  show (2 : Int) ^ (min (64 - (N : Int) % 64).toNat 64) = _
  rw [show (64 - (N : Int) % 64).toNat = 64 - N % 64 from by omega, Nat.min_eq_left (by omega)]
 refine c_seq (c_region (l_assign rfl rfl rfl (l_nil (e_then ?_))))
 refine c_keep [0, 1] (.cons rfl (.cons rfl .nil)) ?_
 refine c_seq (c_region (l_move rfl rfl rfl ?_))
 refine v_leni rfl rfl Tryz.underlying117 rfl (by first | exact hw0.iarg hv | assumption) ?_
 refine l_move rfl rfl rfl ?_
 refine l_quo rfl rfl rfl rfl (by omega) (q_i64 (by omega)) ?_
 refine l_add rfl rfl rfl rfl (w_i64 (by omega)) ?_
 refine l_add rfl rfl rfl rfl (w_i64 (by omega)) ?_
 refine v_make (m := l.length + N / 64 + 1) (c := l.length + N / 64 + 1) hw0 rfl rfl Tryz.underlying117 ti65 rfl rfl rfl (by omega) (by omega) (by omega) (by omega) (by omega) (fun v1_6 w1 hw1 => ?_)
 try clear hw0
 refine l_assign rfl rfl rfl (l_nil (e_then ?_))
 refine c_keep [0, 1, 5] (.cons rfl (.cons rfl (.cons rfl .nil))) ?_
 refine c_seq (c_region ?_)
 have hw1z := hw1.cast (show [As.ro 65 v1_6 (List.replicate (l.length + N / 64 + 1) (Value.int IntKind.u64 0))] = [As.ri 65 .u64 v1_6 (List.replicate (l.length + N / 64 + 1) 0)] from by rw [ints_replicate])
 refine l_move rfl rfl rfl (l_move rfl rfl rfl ?_)
 refine l_quo rfl rfl rfl rfl (by omega) (q_i64 (by omega)) ?_
 refine v_window (l := N / 64) (m := l.length + 1) (h := l.length + N / 64 + 1) rfl rfl Tryz.underlying117 tz65 rfl rfl rfl rfl (by first | exact hw1.io mem0 | exact hw1.iarg hv | assumption) (by first | rfl | (simp; done) | (simp; omega)) (by first | rfl | (simp; done) | (simp; omega)) (.inl rfl) (by simp) (by omega) (by first | omega | (simp; done) | (simp; omega)) (by omega) (fun A2_3 c2_3 d2_3 h2_3 hc2_3 => ?_)
 refine l_assign rfl rfl rfl (l_nil (e_then ?_))
 refine c_keep [0, 1, 5, 6] (.cons rfl (.cons rfl (.cons rfl (.cons rfl .nil)))) ?_
 refine c_seq (c_seq (c_region (l_move rfl rfl rfl ?_)))
 refine v_leni rfl rfl Tryz.underlying117 rfl (by first | exact hw1.io mem0 | exact hw1.iarg hv | assumption) ?_
 refine l_move rfl rfl rfl (l_nil (e_then ?_))
 refine c_keep [0, 1, 5, 6, 20, 21] (.cons rfl (.cons rfl (.cons rfl (.cons rfl (.cons rfl (.cons rfl .nil)))))) ?_
 refine c_block ?_
 refine c_loopk (ι := Nat × List Int) (fun (z0 : Nat × List Int) => match z0 with | ⟨i, o⟩ => l.length - i) (fun (z0 : Nat × List Int) (w' : World) => match z0 with | ⟨i, o⟩ => St w w.heap.size None' ([As.ri 65 .u64 v1_6 o]) w' ∧ i ≤ l.length ∧ o.length = l.length + N / 64 + 1 ∧ U o ∧ nv o = 18446744073709551616 ^ (N / 64) * 2 ^ (N % 64) * nv (l.take i) ∧ o.getD (N / 64 + i) 0 < 2 ^ (N % 64) ∧ (∀ j, N / 64 + i < j → o.getD j 0 = 0)) (fun (z0 : Nat × List Int) => match z0 with | ⟨i, o⟩ => [(21, .int .i64 (i : Int))]) [0, 1, 5, 6, 20] (0, List.replicate (l.length + N / 64 + 1) 0) ?_ (.cons rfl (.cons rfl (.cons rfl (.cons rfl (.cons rfl .nil))))) ?_ ?_
 ·exact ⟨hw1z, by omega, by simp, U.zeros _, by simp [Ma.vb, Ma.vb_zeros], by rw [getD_rep]; exact hD0, fun j hj => getD_rep _ _⟩
 ·exact (.cons rfl (by first | rfl | (refine congrArg (Value.int _) ?_; omega)) .nil)
 rintro ⟨i, o⟩ w2 ⟨hw2, hi, hol, hUo, hval, hlt, hz⟩
 show RunC P _ _ _ (_ :: _) _
 refine c_seq (c_region ?_)
 refine l_lss rfl rfl rfl rfl ?_
 refine l_nil (e_then (c_seq ?_))
 first | refine c_cond rfl (fun hc0 => ?_) (fun hc0 => ?_) | refine c_condb rfl (fun hc0 => ?_) (fun hc0 => ?_)
 ·skip
  refine c_skip (e_then ?_)
  refine c_keep [0, 1, 5, 6, 20, 21] (.cons rfl (.cons rfl (.cons rfl (.cons rfl (.cons rfl (.cons rfl .nil)))))) ?_
  refine c_cutk (ι := List Int) (fun (o2 : List Int) (w' : World) => St w w.heap.size None' ([As.ri 65 .u64 v1_6 o2]) w' ∧ o2.length = l.length + N / 64 + 1 ∧ U o2 ∧ nv o2 = 18446744073709551616 ^ (N / 64) * 2 ^ (N % 64) * nv (l.take (i + 1)) ∧ o2.getD (N / 64 + (i + 1)) 0 < 2 ^ (N % 64) ∧ (∀ j, N / 64 + (i + 1) < j → o2.getD j 0 = 0)) (fun (o2 : List Int) => []) [0, 1, 5, 6, 20, 21] (.cons rfl (.cons rfl (.cons rfl (.cons rfl (.cons rfl (.cons rfl .nil)))))) ?_ ?_
  ·skip
   refine c_block (c_seq (c_region (l_move rfl rfl rfl (l_assign rfl rfl rfl (l_nil ?_)))))
   refine e_then ?_
   refine c_keep [0, 1, 5, 6, 7, 20, 21] (.cons rfl (.cons rfl (.cons rfl (.cons rfl (.cons rfl (.cons rfl (.cons rfl .nil))))))) ?_
   refine c_seq ?_
   refine c_tail 13 (by kernel_rfl) (by kernel_rfl) ?_
   have hw3 := hw2.drewn
   try clear hw2
   refine l_move rfl rfl rfl (l_move rfl rfl rfl ?_)
   refine v_getw (j := i) (l := N / 64) rfl rfl rfl rfl Tryz.underlying117 tz65 Tryz.underlying65 rfl rfl h2_3 (by first | exact hw3.io mem0 | exact hw3.iarg hv | assumption) (by first | omega | (simp; done) | (simp; omega)) hc2_3 (by assumption) rfl (by first | rfl | omega) (by omega) (fun hb6_2 => ?_)
   refine l_move rfl rfl rfl (l_move rfl rfl rfl ?_)
   refine v_getr rfl rfl rfl rfl Tryz.underlying117 tz65 Tryz.underlying65 rfl rfl (by first | exact hw3.io mem0 | exact hw3.iarg hv | assumption) (by assumption) rfl rfl (by first | omega | (simp; done) | (simp; omega)) (fun hb6_6 => ?_)
   refine l_move rfl rfl rfl ?_
   refine l_rem rfl rfl rfl rfl (by omega) (r_pos (by omega)) ?_
   refine l_shl rfl rfl rfl rfl (by omega) (shl_eq hDk (w_u64m _)) ?_
   refine l_bits rfl rfl rfl rfl rfl (or_low (by omega) ⟨hb6_2.1, hlt⟩) ?_
   refine v_addrw (j := i) (l := N / 64) rfl rfl Tryz.underlying117 tz65 rfl rfl h2_3 (by first | exact hw3.io mem0 | exact hw3.iarg hv | assumption) (by first | omega | (simp; done) | (simp; omega)) (by first | rfl | omega) (by omega) ?_
   refine l_nil ?_
   refine e_tail ?_
   refine v_storeiw hw3 .head h2_3 (by first | rfl | omega | (simp; done) | (simp; omega)) rfl tz65 rfl rfl (by first | omega | (simp; done) | (simp; omega)) (fun w4 hw4 => ?_)
   try clear hw3
   refine l_nil (e_then ?_)
   refine c_keep [0, 1, 5, 6, 7, 20, 21] (.cons rfl (.cons rfl (.cons rfl (.cons rfl (.cons rfl (.cons rfl (.cons rfl .nil))))))) ?_
   refine c_seq (c_region ?_)
   have hxl := shl_low_lt (x := l.getD i 0) (k := N % 64) (by omega)
   have hxd : 0 ≤ l.getD i 0 / 2 ^ (64 - N % 64) := Int.ediv_nonneg (getD_u hU i).1 (by omega)
   have hxd1 : l.getD i 0 / 2 ^ (64 - N % 64) < 2 ^ (N % 64) := Int.ediv_lt_of_lt_mul hE0 (by rw [Int.mul_comm, split64 (by omega)]; have := (getD_u hU i).2; omega)
   have hD1 : (2 : Int) ^ (N % 64) ≤ 18446744073709551615 := by
    have := Ma.pow_mono (show (1 : Int) ≤ 2 by omega) (show N % 64 ≤ 63 by omega)
    have e : (2 : Int) ^ 63 = 9223372036854775808 := by decide
    omega
   have hnn : 0 ≤ o.getD (N / 64 + i) 0 := (getD_u hUo _).1
   have hxm := Int.mul_nonneg hxl.1 (Int.le_of_lt hD0)
   have hnew : U (o.set (N / 64 + i) (o.getD (N / 64 + i) 0 + l.getD i 0 % 2 ^ (64 - N % 64) * 2 ^ (N % 64))) := hUo.set ⟨by omega, by omega⟩ _
   refine l_move rfl rfl rfl ?_
   refine l_rem rfl rfl rfl rfl (by omega) (r_pos (by omega)) ?_
   refine l_gtr rfl rfl rfl rfl ?_
   refine l_nil (e_then ?_)
   refine c_keep [0, 1, 5, 6, 7, 20, 21, 39] (.cons rfl (.cons rfl (.cons rfl (.cons rfl (.cons rfl (.cons rfl (.cons rfl (.cons rfl .nil)))))))) ?_
   first | refine c_cond rfl (fun hc1 => ?_) (fun hc1 => ?_) | refine c_condb rfl (fun hc1 => ?_) (fun hc1 => ?_)
   ·skip
    refine c_region (l_move rfl rfl rfl (l_move rfl rfl rfl ?_))
    refine l_add rfl rfl rfl rfl (w_i64 (by omega)) ?_
    refine l_move rfl rfl rfl (l_move rfl rfl rfl ?_)
    refine v_getr rfl rfl rfl rfl Tryz.underlying117 tz65 Tryz.underlying65 rfl rfl (by first | exact hw4.io mem0 | exact hw4.iarg hv | assumption) (by assumption) rfl rfl (by first | omega | (simp; done) | (simp; omega)) (fun hb8_5 => ?_)
    refine l_move rfl rfl rfl ?_
    refine l_rem rfl rfl rfl rfl (by omega) (r_pos (by omega)) ?_
    refine l_sub rfl rfl rfl rfl (w_i64 (by omega)) ?_
    refine l_shr rfl rfl rfl rfl (by omega) (shr_eq hEk (by omega)) ?_
    refine v_addrw (j := i + 1) (l := N / 64) rfl rfl Tryz.underlying117 tz65 rfl rfl h2_3 (by first | exact hw4.io mem0 | exact hw4.iarg hv | assumption) (by first | omega | (simp; done) | (simp; omega)) (by first | rfl | omega) (by omega) ?_
    refine v_storeiw hw4 .head h2_3 (by first | rfl | omega | (simp; done) | (simp; omega)) rfl tz65 rfl rfl (by first | omega | (simp; done) | (simp; omega)) (fun w5 hw5 => ?_)
    try clear hw4
    refine l_nil ?_
    refine e_blk ?_
    refine e_meetk ((o.set (N / 64 + i) (o.getD (N / 64 + i) 0 + l.getD i 0 % 2 ^ (64 - N % 64) * 2 ^ (N % 64))).set (N / 64 + (i + 1)) (l.getD i 0 / 2 ^ (64 - N % 64))) ?_ (.cons rfl (.cons rfl (.cons rfl (.cons rfl (.cons rfl (.cons rfl .nil)))))) ?_
    ·refine ⟨hw5, by simpa using hol, hnew.set ⟨hxd, by omega⟩ _, ?_, ?_, fun j hj => ?_⟩
     ·have h1 := set_top (N / 64) i (o.getD (N / 64 + i) 0 + l.getD i 0 % 2 ^ (64 - N % 64) * 2 ^ (N % 64)) (l.getD i 0 / 2 ^ (64 - N % 64)) (l := o) (by omega) (hz _ (by omega))
      have h2 := shl_step (x := l.getD i 0) (o := o.getD (N / 64 + i) 0) (k := N % 64) (by omega) hval (18446744073709551616 ^ i)
      rw [← Int.pow_add] at h2
      rw [← Nat.add_assoc, h1]
      show _ = _ * Ma.vb _ _
      rw [Ma.vb_take_succ]
      exact h2
     ·rw [getD_set _ _ _ _ _ (by simp; omega), if_pos rfl]; exact hxd1
     ·rw [getD_set_ne _ (by omega), getD_set_ne _ (by omega)]; exact hz j (by omega)
    ·exact .nil
   ·skip
    refine c_skip ?_
    refine e_blk ?_
    refine e_meetk (o.set (N / 64 + i) (o.getD (N / 64 + i) 0 + l.getD i 0 % 2 ^ (64 - N % 64) * 2 ^ (N % 64))) ?_ (.cons rfl (.cons rfl (.cons rfl (.cons rfl (.cons rfl (.cons rfl .nil)))))) ?_
    ·have hs0 : N % 64 = 0 := by omega
     have hxz : l.getD i 0 / 2 ^ (64 - N % 64) = 0 := by
      rw [hs0]
      exact Int.ediv_eq_zero_of_lt (getD_u hU i).1 (by have := (getD_u hU i).2; have e : (2 : Int) ^ (64 - 0) = 18446744073709551616 := (by decide); omega)
     refine ⟨hw4, by simpa using hol, hnew, ?_, ?_, fun j hj => ?_⟩
     ·have h1 := set_top (N / 64) i (o.getD (N / 64 + i) 0 + l.getD i 0 % 2 ^ (64 - N % 64) * 2 ^ (N % 64)) (l.getD i 0 / 2 ^ (64 - N % 64)) (l := o) (by omega) (hz _ (by omega))
      have h2 := shl_step (x := l.getD i 0) (o := o.getD (N / 64 + i) 0) (k := N % 64) (by omega) hval (18446744073709551616 ^ i)
      rw [← Int.pow_add] at h2
      have h3 := Ma.vb_set_at 18446744073709551616 o (N / 64 + i) (o.getD (N / 64 + i) 0 + l.getD i 0 % 2 ^ (64 - N % 64) * 2 ^ (N % 64)) (by omega)
      rw [hxz, Int.mul_zero, Int.add_zero] at h2
      show Ma.vb _ _ = _ * Ma.vb _ _
      rw [Ma.vb_take_succ, h3]
      exact h2
     ·rw [getD_set_ne _ (by omega), hz _ (by omega)]; exact hD0
     ·rw [getD_set_ne _ (by omega)]; exact hz j (by omega)
    ·exact .nil
  rintro o2 w6 ⟨hw6, hl2, hU2, hv2, hlt2, hz2⟩
  refine c_region ?_
  refine l_add rfl rfl rfl rfl (w_i64 (by omega)) ?_
  refine l_move rfl rfl rfl (l_nil ?_)
  refine e_againk (i := (i, o)) (i + 1, o2) ?_ ?_ (.cons rfl (.cons rfl (.cons rfl (.cons rfl (.cons rfl .nil))))) ?_
  ·first | omega | (simp; omega)
  ·exact ⟨hw6, by omega, hl2, hU2, hv2, hlt2, hz2⟩
  ·exact (.cons rfl (by first | rfl | (refine congrArg (Value.int _) ?_; omega)) .nil)
 ·skip
  refine c_exit ?_
  refine e_then_exit ?_
  refine e_then_exit ?_
  refine e_blk_exit ?_
  refine e_then ?_
  refine c_keep [5] (.cons rfl .nil) ?_
  refine c_seq (c_region (l_move rfl rfl rfl (l_assign rfl rfl rfl (l_nil (e_then ?_)))))
  refine c_keep [4] (.cons rfl .nil) ?_
  refine c_ret ?_
  refine e_done1 Tryz.results84 rfl ?_
  refine ⟨_, rfl, ?_⟩
  obtain rfl : i = l.length := by omega
  rw [List.take_length] at hval
  refine ⟨_, _, rfl, hUo, hol, ?_, hw2.grows⟩
  rw [hval, show (18446744073709551616 : Int) = 2 ^ 64 from rfl, ← Int.pow_mul, ← Int.pow_add, show 64 * (N / 64) + N % 64 = N from Nat.div_add_mod N 64, Int.mul_comm]
theorem shr_step {p S H A x y : Int} {k : Nat} (hk : k ≤ 64) (h : 2 ^ k * S + H = A + p * (x % 2 ^ k)) : 2 ^ k * (S + p * (x / 2 ^ k + y % 2 ^ k * 2 ^ (64 - k))) + H = A + p * x + p * 18446744073709551616 * (y % 2 ^ k) := by
 have e := Int.emod_add_mul_ediv x (2 ^ k)
 have e2 : 2 ^ k * (p * (x / 2 ^ k + y % 2 ^ k * 2 ^ (64 - k))) = p * (2 ^ k * (x / 2 ^ k)) + p * 18446744073709551616 * (y % 2 ^ k) := by
  rw [← split64 hk, Int.mul_left_comm, Int.mul_add, Int.mul_add]
  congr 1
  rw [Int.mul_assoc]
  congr 1
  rw [Int.mul_left_comm, Int.mul_comm (2 ^ (64 - k)) (2 ^ k), Int.mul_assoc, Int.mul_left_comm, Int.mul_comm (y % 2 ^ k)]
 have e3 : p * x = p * (x % 2 ^ k) + p * (2 ^ k * (x / 2 ^ k)) := by rw [← Int.mul_add, e]
 rw [Int.mul_add, e2, e3]
 omega
theorem nv_drop {l : List Int} (hU : U l) (q : Nat) (hq : q ≤ l.length) : nv (l.drop q) = nv l / 18446744073709551616 ^ q := by
 have e := Ma.vb_append 18446744073709551616 (l.take q) (l.drop q)
 rw [List.take_append_drop, List.length_take, Nat.min_eq_left hq] at e
 have h1 := Ma.vb_lt (show (0 : Int) < 18446744073709551616 by omega) (hU.dg.take q)
 have h2 := Ma.vb_nonneg (show (0 : Int) < 18446744073709551616 by omega) (hU.dg.take q)
 rw [List.length_take, Nat.min_eq_left hq] at h1
 show Ma.vb _ _ = Ma.vb _ _ / _
 rw [e, Int.add_mul_ediv_left _ _ (by omega), Int.ediv_eq_zero_of_lt h2 h1, Int.zero_add]
theorem U.drop {l : List Int} (h : U l) (n : Nat) : U (l.drop n) := fun x hx => h x (List.mem_of_mem_drop hx)
def shlS (x n : Int) : Int × Int := if 8192 < Ma.blen x then (21, 0) else if n < 0 then (23, 0) else if x = 0 then (0, 0) else if 8192 - Ma.blen x < n then (21, 0) else (0, x * 2 ^ n.toNat)
theorem ShlN (v : Value) (l : List Int) (hU : U l) (hL : l.length ≤ 68719476736) (n : Int) (w : World) (hv : IV w v (ints .u64 l)) :
  CallsV P 67 [v, .int .i64 n] w fun r w' => NatR w w' r (shlS (nv l) n).1 (shlS (nv l) n).2 := by
 refine enterW Tryz.func67 rfl Tryz.ntmps67 rfl ?_
 have hw0 := St.start w
 obtain ⟨A, c, rfl, hc, hs⟩ := hv
 have hv : IV w (.slice A (ints .u64 l).length c) (ints .u64 l) := ⟨A, c, rfl, hc, hs⟩
 have hvt := trim_iv hv
 have hta : (Ma.tr l).length ≤ l.length := (Ma.tr_take l).2.1
 have hb0 := Ma.blen_nonneg (nv l)
 clear hs
 refine c_seq (c_region (l_assign rfl rfl rfl (l_assign rfl rfl rfl (l_nil (e_then ?_)))))
 refine c_keep [0, 1] (.cons rfl (.cons rfl .nil)) ?_
 refine c_seq (c_block (c_seq (c_region (l_move rfl rfl rfl ?_))))
 refine l_callp rfl rfl Tryz.func78 rfl rfl (.cons rfl .nil) (longN A c l hU (by omega) w (hw0.iarg hv)) ?_
 refine l_assign rfl rfl rfl (l_nil (e_then ?_))
 refine c_keep [0, 1, 6] (.cons rfl (.cons rfl (.cons rfl .nil))) ?_
 first | refine c_cond rfl (fun hc0 => ?_) (fun hc0 => ?_) | refine c_condb rfl (fun hc0 => ?_) (fun hc0 => ?_)
 ·skip
  refine c_seq (c_region (l_assign rfl rfl rfl (l_assign rfl rfl rfl (l_nil (e_then ?_)))))
  refine c_keep [4, 5] (.cons rfl (.cons rfl .nil)) ?_
  refine c_ret ?_
  refine e_blk_ret ?_
  refine e_then_ret ?_
  refine e_done2 Tryz.results67 rfl rfl ?_
  refine ⟨_, rfl, ?_⟩
  have e : shlS (nv l) n = (21, 0) := if_pos hc0
  rw [e]
  exact ⟨_, _, rfl, Ma.Cn.nil, (hw0.nil 65).grows⟩
 ·skip
  refine c_seq (c_region (l_move rfl rfl rfl ?_))
  refine l_lss rfl rfl rfl rfl ?_
  refine l_assign rfl rfl rfl (l_nil (e_then ?_))
  refine c_keep [0, 1, 9] (.cons rfl (.cons rfl (.cons rfl .nil))) ?_
  first | refine c_cond rfl (fun hc1 => ?_) (fun hc1 => ?_) | refine c_condb rfl (fun hc1 => ?_) (fun hc1 => ?_)
  ·skip
   refine c_seq (c_region (l_assign rfl rfl rfl (l_assign rfl rfl rfl (l_nil (e_then ?_)))))
   refine c_keep [4, 5] (.cons rfl (.cons rfl .nil)) ?_
   refine c_ret ?_
   refine e_blk_ret ?_
   refine e_then_ret ?_
   refine e_done2 Tryz.results67 rfl rfl ?_
   refine ⟨_, rfl, ?_⟩
   have e : shlS (nv l) n = (23, 0) := by unfold shlS; rw [if_neg hc0, if_pos hc1]
   rw [e]
   exact ⟨_, _, rfl, Ma.Cn.nil, (hw0.nil 65).grows⟩
  ·skip
   refine c_seq (c_region (l_move rfl rfl rfl ?_))
   refine l_callp rfl rfl Tryz.func66 rfl rfl (.cons rfl .nil) (lenN A c l hU (by omega) w (hw0.iarg hv)) ?_
   refine l_eql rfl rfl rfl rfl ?_
   refine l_assign rfl rfl rfl (l_nil (e_then ?_))
   refine c_keep [0, 1, 12] (.cons rfl (.cons rfl (.cons rfl .nil))) ?_
   first | refine c_cond rfl (fun hc2 => ?_) (fun hc2 => ?_) | refine c_condb rfl (fun hc2 => ?_) (fun hc2 => ?_)
   ·skip
    refine c_seq (c_region (l_assign rfl rfl rfl (l_assign rfl rfl rfl (l_nil (e_then ?_)))))
    refine c_keep [4, 5] (.cons rfl (.cons rfl .nil)) ?_
    refine c_ret ?_
    refine e_blk_ret ?_
    refine e_then_ret ?_
    refine e_done2 Tryz.results67 rfl rfl ?_
    refine ⟨_, rfl, ?_⟩
    have hz : nv l = 0 := by
     rcases Int.lt_or_eq_of_le hU.nv_nonneg with h | h
     ·have := Ma.blen_pos h; omega
     ·exact h.symm
    have e : shlS (nv l) n = (0, 0) := by unfold shlS; rw [if_neg hc0, if_neg hc1, if_pos hz]
    rw [e]
    exact ⟨_, _, rfl, Ma.Cn.nil, (hw0.nil 65).grows⟩
   ·skip
    refine c_seq (c_region (l_move rfl rfl rfl (l_move rfl rfl rfl ?_)))
    refine l_callp rfl rfl Tryz.func66 rfl rfl (.cons rfl .nil) (lenN A c l hU (by omega) w (hw0.iarg hv)) ?_
    refine l_sub rfl rfl rfl rfl (w_i64 (by omega)) ?_
    refine l_gtr rfl rfl rfl rfl ?_
    refine l_assign rfl rfl rfl (l_nil (e_then ?_))
    refine c_keep [0, 1, 16] (.cons rfl (.cons rfl (.cons rfl .nil))) ?_
    first | refine c_cond rfl (fun hc3 => ?_) (fun hc3 => ?_) | refine c_condb rfl (fun hc3 => ?_) (fun hc3 => ?_)
    ·skip
     refine c_seq (c_region (l_assign rfl rfl rfl (l_assign rfl rfl rfl (l_nil (e_then ?_)))))
     refine c_keep [4, 5] (.cons rfl (.cons rfl .nil)) ?_
     refine c_ret ?_
     refine e_blk_ret ?_
     refine e_then_ret ?_
     refine e_done2 Tryz.results67 rfl rfl ?_
     refine ⟨_, rfl, ?_⟩
     have hz : nv l ≠ 0 := fun h => by rw [h] at hc2; exact hc2 Ma.blen_zero
     have e : shlS (nv l) n = (21, 0) := by unfold shlS; rw [if_neg hc0, if_neg hc1, if_neg hz, if_pos hc3]
     rw [e]
     exact ⟨_, _, rfl, Ma.Cn.nil, (hw0.nil 65).grows⟩
    ·skip
     refine c_skip ?_
     refine e_blk ?_
     refine e_then ?_
     refine c_keep [0, 1] (.cons rfl (.cons rfl .nil)) ?_
     refine c_seq (c_region ?_)
     have hp : 0 < nv l := by
      have := hU.nv_nonneg
      rcases Int.lt_or_eq_of_le this with h | h
      ·exact h
      ·rw [← h] at hc2
       exact absurd Ma.blen_zero hc2
     have hb1 := Ma.blen_pos hp
     refine l_move rfl rfl rfl ?_
     refine l_callp rfl rfl Tryz.func79 rfl rfl (.cons rfl .nil) (trim A c l hU (by omega) w (hw0.iarg hv)) ?_
     refine l_move rfl rfl rfl ?_
     refine l_turn (s := 24) (v' := .int .i64 ((n.toNat : Nat) : Int)) rfl (by rw [Int.toNat_of_nonneg (by omega)]) ?_
     refine l_call rfl rfl Tryz.func84 rfl rfl (.cons rfl (.cons rfl .nil)) (shlN _ (Ma.tr l) hU.tr (by omega) n.toNat (by omega) w (hw0.iarg hvt)) ?_
     rintro vs w1 ⟨_, ls, rfl, hUs, hls, hns, hG⟩
     have hw1 := hG _ _ _ _ hw0
     try clear hG hw0
     simp only [List.cons_append, List.nil_append] at hw1
     refine l_call rfl rfl Tryz.func79 rfl rfl (.cons rfl .nil) (trim_turn hUs (by omega) (hw1.io mem0)) ?_
     rintro vt w2 ⟨_, rfl, hT⟩
     have hw2 := hT _ _ _ _ _ .head hw1
     try clear hT hw1
     refine l_assign rfl rfl rfl (l_assign rfl rfl rfl (l_nil (e_then ?_)))
     refine c_keep [4, 5] (.cons rfl (.cons rfl .nil)) ?_
     refine c_ret ?_
     refine e_done2 Tryz.results67 rfl rfl ?_
     refine ⟨_, rfl, ?_⟩
     have e : shlS (nv l) n = (0, nv l * 2 ^ n.toNat) := by unfold shlS; rw [if_neg hc0, if_neg hc1, if_neg (by omega), if_neg hc3]
     rw [e]
     rw [nv_tr] at hns
     exact ⟨_, _, rfl, Ma.Cn.of_tr hUs.dg hns, hw2.grows⟩
end Go.Proofs.YtggdkplphfofkaaGreat.W
