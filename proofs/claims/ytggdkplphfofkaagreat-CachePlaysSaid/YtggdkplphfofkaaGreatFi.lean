/- walks of math/bits.Len, nat.Pow, nat.From and of the reference's Pow, Of -/
import Derived.Test.YtggdkplphfofkaaGreatFh
set_option linter.unusedVariables false
set_option linter.unusedSimpArgs false
set_option maxRecDepth 10000
namespace Go.Proofs.YtggdkplphfofkaaGreat.W
open Go.Vc Go.RowKit
def powS (b n : Int) : Int × Int := if n < 0 then (23, 0) else if 8192 < Ma.blen (b ^ n.toNat) then (21, 0) else (0, b ^ n.toNat)
theorem powS_neg {b n : Int} (h : n < 0) : powS b n = (23, 0) := if_pos h
theorem powS_long {b n : Int} (h : ¬ n < 0) (hl : 8192 < Ma.blen (b ^ n.toNat)) : powS b n = (21, 0) := by unfold powS; rw [if_neg h, if_pos hl]
theorem powS_ok {b n : Int} (h : ¬ n < 0) (hl : Ma.blen (b ^ n.toNat) ≤ 8192) : powS b n = (0, b ^ n.toNat) := by unfold powS; rw [if_neg h, if_neg (by omega)]
theorem pow_mono_b {b : Int} (hb : 1 ≤ b) {m n : Nat} (h : m ≤ n) : b ^ m ≤ b ^ n := Ma.pow_mono hb h
theorem pow_big {b : Int} (hb : 2 ≤ b) {n : Nat} (h : 8192 < n) : 8192 < Ma.blen (b ^ n) := by
 rcases Int.lt_or_le 8192 (Ma.blen (b ^ n)) with h1 | h1
 ·exact h1
 ·exfalso
  have hp := Ma.pow_pos (show 0 < b by omega) n
  have h2 := (Ma.blen_le_iff (n := b ^ n) (by omega) 8192).1 h1
  have h3 : (2 : Int) ^ n ≤ b ^ n := by
   clear h1 h2 hp h
   induction n with
   | zero => simp
   | succ n ih =>
    rw [Int.pow_succ, Int.pow_succ]
    have := Ma.pow_pos (show (0 : Int) < 2 by omega) n
    exact Int.mul_le_mul ih hb (by omega) (by omega)
  have h4 := Ma.pow_mono (show (1 : Int) ≤ 2 by omega) (show 8193 ≤ n by omega)
  have h5 : (2 : Int) ^ 8193 = 2 ^ 8192 * 2 := Int.pow_succ 2 8192
  have := Ma.pow_pos (show (0 : Int) < 2 by omega) 8192
  omega
theorem and_one {m : Int} (h : 0 ≤ m ∧ m ≤ 9223372036854775807) : bitw .and .i64 m 1 = m % 2 := by
 obtain ⟨n, rfl⟩ := Int.eq_ofNat_of_zero_le h.1
 have e : (BitVec.ofInt IntKind.i64.bits (n : Int) &&& BitVec.ofInt IntKind.i64.bits 1).toNat = n % 2 := by
  show (BitVec.ofInt 64 (n : Int) &&& BitVec.ofInt 64 1).toNat = _
  rw [BitVec.toNat_and, toNat_ofInt64 (by omega), toNat_ofInt64 (by omega), Int.toNat_natCast]
  exact Nat.and_one_is_mod n
 show IntKind.i64.wrap _ = _
 rw [e, w_i64 (by omega)]
 omega
theorem cn_len {l : List Int} {n : Int} (h : Ma.Cn 18446744073709551616 l n) {k : Nat} (hb : Ma.blen n ≤ k) : 64 * l.length ≤ k + 64 := by
 rcases Nat.eq_zero_or_pos l.length with h0 | h0
 ·omega
 ·have := Ma.blen_top (s := 64) h.dg h.tr h0
  rw [show ((2 : Int) ^ 64) = 18446744073709551616 from rfl, h.val] at this
  have := Ma.blen_nonneg (l.getD (l.length - 1) 0)
  omega
theorem half_pow (b : Int) (n k : Nat) (hk : 0 < k) : b ^ (n / 2 ^ (k - 1)) = b ^ (n / 2 ^ k) * b ^ (n / 2 ^ k) * (if n / 2 ^ (k - 1) % 2 = 1 then b else 1) := by
 obtain ⟨j, rfl⟩ : ∃ j, k = j + 1 := ⟨k - 1, by omega⟩
 have e : n / 2 ^ (j + 1) = n / 2 ^ j / 2 := by rw [Nat.pow_succ, Nat.div_div_eq_div_mul]
 show b ^ (n / 2 ^ j) = b ^ (n / 2 ^ (j + 1)) * b ^ (n / 2 ^ (j + 1)) * (if n / 2 ^ j % 2 = 1 then b else 1)
 rw [e, ← Int.pow_add]
 clear e
 generalize n / 2 ^ j = m
 split
 ·rw [← Int.pow_succ]; congr 1; omega
 ·rw [Int.mul_one]; congr 1; omega
theorem lenU (x : Int) (hx : 0 ≤ x ∧ x ≤ 18446744073709551615) (w : World) :
  CallsV P 77 [.int .u64 x] w fun r w' => r = .int .i64 (Ma.blen x) ∧ w = w' := by
 refine enterW Tryz.func77 rfl Tryz.ntmps77 rfl ?_
 refine c_seq (c_region (l_assign rfl rfl rfl (l_nil (e_then ?_))))
 refine c_keep [0] (.cons rfl .nil) ?_
 refine c_seq ?_
 first | refine c_cond rfl (fun hc0 => ?_) (fun hc0 => ?_) | refine c_condb rfl (fun hc0 => ?_) (fun hc0 => ?_)
 ·skip
  exact absurd hc0 (by simp)
 ·skip
  refine c_skip (e_then (c_seq (c_region (l_move rfl rfl rfl ?_))))
  refine l_callp rfl rfl Tryz.func83 rfl rfl (.cons rfl .nil) (len64 _ hx _) ?_
  refine l_assign rfl rfl rfl (l_nil (e_then ?_))
  refine c_keep [2] (.cons rfl .nil) ?_
  refine c_ret ?_
  refine e_done1 Tryz.results77 rfl ?_
  refine ⟨_, rfl, ?_⟩
  exact ⟨rfl, rfl⟩
theorem mulC {a b : Value} {la lb : List Int} {na nb : Int} (ha' : Ma.Cn 18446744073709551616 la na) (hb' : Ma.Cn 18446744073709551616 lb nb) (hla : Ma.blen na ≤ 8192) (hlb : Ma.blen nb ≤ 8192) {w : World} (ha : IV w a (ints .u64 la)) (hb : IV w b (ints .u64 lb)) :
  CallsV P 65 [a, b] w fun r w' => NatR w w' r (if 8192 < Ma.blen (na * nb) then 21 else 0) (if 8192 < Ma.blen (na * nb) then 0 else na * nb) := by
 have h1 := cn_len ha' (k := 8192) hla
 have h2 := cn_len hb' (k := 8192) hlb
 refine (mulN a b la lb (U.of_dg ha'.dg) (U.of_dg hb'.dg) (by omega) (by omega) w ha hb).mono ?_
 intro r w' h
 rw [show nv la = na from ha'.val, show nv lb = nb from hb'.val] at h
 by_cases hC : 8192 < Ma.blen (na * nb)
 ·rw [if_pos (.inr (.inr hC)), if_pos (.inr (.inr hC))] at h
  rw [if_pos hC, if_pos hC]
  exact h
 ·have hn : ¬ (8192 < Ma.blen na ∨ 8192 < Ma.blen nb ∨ 8192 < Ma.blen (na * nb)) := fun h => h.elim (fun h => by omega) fun h => h.elim (fun h => by omega) hC
  rw [if_neg hn, if_neg hn] at h
  rw [if_neg hC, if_neg hC]
  exact h
theorem powN (b n : Int) (hb : 0 ≤ b ∧ b ≤ 18446744073709551615) (hn : -9223372036854775808 ≤ n ∧ n ≤ 9223372036854775807) (w : World) :
  CallsV P 63 [.int .u64 b, .int .i64 n] w fun r w' => NatR w w' r (powS b n).1 (powS b n).2 := by
 refine enterW Tryz.func63 rfl Tryz.ntmps63 rfl ?_
 have hw0 := St.start w
 refine c_seq (c_region (l_assign rfl rfl rfl (l_assign rfl rfl rfl (l_nil (e_then ?_)))))
 refine c_keep [0, 1] (.cons rfl (.cons rfl .nil)) ?_
 refine c_seq (c_block (c_seq (c_region (l_move rfl rfl rfl ?_))))
 refine l_lss rfl rfl rfl rfl ?_
 refine l_assign rfl rfl rfl (l_nil (e_then ?_))
 refine c_keep [0, 1, 9] (.cons rfl (.cons rfl (.cons rfl .nil))) ?_
 first | refine c_cond rfl (fun hc0 => ?_) (fun hc0 => ?_) | refine c_condb rfl (fun hc0 => ?_) (fun hc0 => ?_)
 ·skip
  refine c_seq (c_region (l_assign rfl rfl rfl (l_assign rfl rfl rfl (l_nil (e_then ?_)))))
  refine c_keep [4, 5] (.cons rfl (.cons rfl .nil)) ?_
  refine c_ret ?_
  refine e_blk_ret ?_
  refine e_then_ret ?_
  refine e_done2 Tryz.results63 rfl rfl ?_
  refine ⟨_, rfl, ?_⟩
  rw [powS_neg hc0]
  exact ⟨_, _, rfl, Ma.Cn.nil, (hw0.nil 65).grows⟩
 ·skip
  refine c_seq (c_region (l_move rfl rfl rfl ?_))
  refine l_eql rfl rfl rfl rfl ?_
  refine l_assign rfl rfl rfl (l_nil (e_then ?_))
  refine c_keep [0, 1, 12] (.cons rfl (.cons rfl (.cons rfl .nil))) ?_
  first | refine c_cond rfl (fun hc1 => ?_) (fun hc1 => ?_) | refine c_condb rfl (fun hc1 => ?_) (fun hc1 => ?_)
  ·skip
   refine c_seq (c_region ?_)
   refine l_call rfl rfl Tryz.func76 rfl rfl (.cons rfl .nil) (ofN 1 (by omega) w) ?_
   rintro v1 w1 ⟨_, l1, rfl, hcn1, hG⟩
   have hw1 := hG _ _ _ _ hw0
   try clear hG hw0
   simp only [List.cons_append, List.nil_append] at hw1
   refine l_assign rfl rfl rfl (l_assign rfl rfl rfl (l_nil (e_then ?_)))
   refine c_keep [4, 5] (.cons rfl (.cons rfl .nil)) ?_
   refine c_ret ?_
   refine e_blk_ret ?_
   refine e_then_ret ?_
   refine e_done2 Tryz.results63 rfl rfl ?_
   refine ⟨_, rfl, ?_⟩
   subst hc1
   have e : powS b 0 = (0, 1) := by rw [powS_ok (by omega) (by simp; decide)]; simp
   rw [e]
   exact ⟨_, _, rfl, hcn1, hw1.grows⟩
  ·skip
   refine c_seq (c_region (l_move rfl rfl rfl ?_))
   refine l_lss rfl rfl rfl rfl ?_
   refine l_assign rfl rfl rfl (l_nil (e_then ?_))
   refine c_keep [0, 1, 16] (.cons rfl (.cons rfl (.cons rfl .nil))) ?_
   first | refine c_cond rfl (fun hc2 => ?_) (fun hc2 => ?_) | refine c_condb rfl (fun hc2 => ?_) (fun hc2 => ?_)
   ·skip
    refine c_seq (c_region (l_move rfl rfl rfl ?_))
    refine l_call rfl rfl Tryz.func76 rfl rfl (.cons rfl .nil) (ofN b hb w) ?_
    rintro v1 w2 ⟨_, l1, rfl, hcn1, hG⟩
    have hw2 := hG _ _ _ _ hw0
    try clear hG hw0
    simp only [List.cons_append, List.nil_append] at hw2
    refine l_assign rfl rfl rfl (l_assign rfl rfl rfl (l_nil (e_then ?_)))
    refine c_keep [4, 5] (.cons rfl (.cons rfl .nil)) ?_
    refine c_ret ?_
    refine e_blk_ret ?_
    refine e_then_ret ?_
    refine e_done2 Tryz.results63 rfl rfl ?_
    refine ⟨_, rfl, ?_⟩
    have hbp : b ^ n.toNat = b := by
     have hb01 : b = 0 ∨ b = 1 := by omega
     rcases hb01 with h | h
     ·subst h
      obtain ⟨m, hm⟩ : ∃ m, n.toNat = m + 1 := ⟨n.toNat - 1, by omega⟩
      rw [hm, Int.pow_succ, Int.mul_zero]
     ·subst h
      exact Int.one_pow
    have hbl : Ma.blen b ≤ 8192 := by
     have := (Ma.blen_le_iff (n := b) (by omega) 64).2 (by omega)
     omega
    rw [powS_ok hc0 (by rw [hbp]; exact hbl), hbp]
    exact ⟨_, _, rfl, hcn1, hw2.grows⟩
   ·skip
    refine c_seq (c_region (l_move rfl rfl rfl ?_))
    refine l_gtr rfl rfl rfl rfl ?_
    refine l_assign rfl rfl rfl (l_nil (e_then ?_))
    refine c_keep [0, 1, 21] (.cons rfl (.cons rfl (.cons rfl .nil))) ?_
    first | refine c_cond rfl (fun hc3 => ?_) (fun hc3 => ?_) | refine c_condb rfl (fun hc3 => ?_) (fun hc3 => ?_)
    ·skip
     refine c_seq (c_region (l_assign rfl rfl rfl (l_assign rfl rfl rfl (l_nil (e_then ?_)))))
     refine c_keep [4, 5] (.cons rfl (.cons rfl .nil)) ?_
     refine c_ret ?_
     refine e_blk_ret ?_
     refine e_then_ret ?_
     refine e_done2 Tryz.results63 rfl rfl ?_
     refine ⟨_, rfl, ?_⟩
     rw [powS_long hc0 (pow_big (by omega) (by omega))]
     exact ⟨_, _, rfl, Ma.Cn.nil, (hw0.nil 65).grows⟩
    ·skip
     refine c_skip ?_
     refine e_blk ?_
     refine e_then ?_
     refine c_keep [0, 1] (.cons rfl (.cons rfl .nil)) ?_
     refine c_seq (c_region ?_)
     refine l_call rfl rfl Tryz.func76 rfl rfl (.cons rfl .nil) (ofN 1 (by omega) w) ?_
     rintro v0 w3 ⟨_, l0, rfl, hcn0, hG⟩
     have hw3 := hG _ _ _ _ hw0
     try clear hG hw0
     simp only [List.cons_append, List.nil_append] at hw3
     refine l_assign rfl rfl rfl (l_assign rfl rfl rfl (l_nil (e_then ?_)))
     refine c_keep [0, 1, 6, 7] (.cons rfl (.cons rfl (.cons rfl (.cons rfl .nil)))) ?_
     refine c_seq (c_seq (c_region ?_))
     have hbn0 := Ma.blen_nonneg n
     have hbn1 := (Ma.blen_le_iff (n := n) (by omega) 14).2 (by omega)
     refine l_move rfl rfl rfl ?_
     refine l_conv rfl rfl Tryz.underlying3 Tryz.underlying118 rfl (w_u64 (by omega)) ?_
     refine l_callp rfl rfl Tryz.func77 rfl rfl (.cons rfl .nil) (lenU n (by omega) _) ?_
     refine l_sub rfl rfl rfl rfl (w_i64 (by omega)) ?_
     refine l_assign rfl rfl rfl (l_nil (e_then ?_))
     refine c_keep [0, 1, 6, 7, 8] (.cons rfl (.cons rfl (.cons rfl (.cons rfl (.cons rfl .nil))))) ?_
     refine c_block ?_
     refine c_loopk (ι := Nat × Int × List Int × Value) (fun (z0 : Nat × Int × List Int × Value) => match z0 with | ⟨k, ex, o, vo⟩ => k) (fun (z0 : Nat × Int × List Int × Value) (w' : World) => match z0 with | ⟨k, ex, o, vo⟩ => St w w.heap.size None' ([As.ri 65 .u64 vo o]) w' ∧ k ≤ 14 ∧ ((ex = 0 ∧ Ma.Cn 18446744073709551616 o (b ^ (n.toNat / 2 ^ k)) ∧ Ma.blen (b ^ (n.toNat / 2 ^ k)) ≤ 8192) ∨ (ex = 21 ∧ Ma.Cn 18446744073709551616 o 0 ∧ 8192 < Ma.blen (b ^ n.toNat)))) (fun (z0 : Nat × Int × List Int × Value) => match z0 with | ⟨k, ex, o, vo⟩ => [(6, vo), (7, .int .i64 ex), (8, .int .i64 ((k : Int) - 1))]) [0, 1] ((Ma.blen n).toNat, 0, l0, v0) ?_ (.cons rfl (.cons rfl .nil)) ?_ ?_
     ·have hlt : n < 2 ^ (Ma.blen n).toNat := (Ma.blen_le_iff (n := n) (by omega) (Ma.blen n).toNat).1 (by omega)
      have hz : n.toNat / 2 ^ (Ma.blen n).toNat = 0 := Nat.div_eq_of_lt (by
       have : ((n.toNat : Nat) : Int) < ((2 ^ (Ma.blen n).toNat : Nat) : Int) := by rw [Int.natCast_pow, Int.toNat_of_nonneg (by omega)]; exact hlt
       exact Int.ofNat_lt.1 this)
      refine ⟨hw3, by omega, .inl ⟨rfl, ?_, ?_⟩⟩
      ·rw [hz, Int.pow_zero]; exact hcn0
      ·rw [hz, Int.pow_zero]; decide
     ·exact (.cons rfl (by first | rfl | (refine congrArg (Value.int _) ?_; omega)) (.cons rfl (by first | rfl | (refine congrArg (Value.int _) ?_; omega)) (.cons rfl (by first | rfl | (refine congrArg (Value.int _) ?_; omega)) .nil)))
     rintro ⟨k, ex, o, vo⟩ w4 ⟨hw4, hk, hinv⟩
     show RunC P _ _ _ (_ :: _) _
     refine c_seq (c_seq (c_region (l_move rfl rfl rfl ?_)))
     refine l_geq rfl rfl rfl rfl ?_
     refine l_move rfl rfl rfl ?_
     apply l_and 2 [0, 1, 6, 7, 8] rfl rfl (.cons rfl (.cons rfl (.cons rfl (.cons rfl (.cons rfl (.cons rfl .nil)))))) rfl rfl (fun _ => rfl) rfl rfl rfl
     ·intro hg11_3
      refine l_move rfl rfl rfl ?_
      refine l_eql rfl rfl rfl rfl ?_
      refine l_nil ?_
      exact e_stays rfl (.cons rfl (congrArg Value.bool (decide_eq_true hg11_3).symm) (.cons rfl rfl (.cons rfl rfl (.cons rfl rfl (.cons rfl rfl (.cons rfl rfl .nil))))))
     refine l_nil (e_then ?_)
     refine c_keep [0, 1, 6, 7, 8, 34] (.cons rfl (.cons rfl (.cons rfl (.cons rfl (.cons rfl (.cons rfl .nil)))))) ?_
     first | refine c_cond rfl (fun hc4 => ?_) (fun hc4 => ?_) | refine c_condb rfl (fun hc4 => ?_) (fun hc4 => ?_)
     ·skip
      refine c_skip (e_then ?_)
      refine c_keep [0, 1, 6, 8] (.cons rfl (.cons rfl (.cons rfl (.cons rfl .nil)))) ?_
      refine c_cutk (ι := Int × List Int × Value) (fun (z0 : Int × List Int × Value) (w' : World) => match z0 with | ⟨ex2, o2, vo2⟩ => St w w.heap.size None' ([As.ri 65 .u64 vo2 o2]) w' ∧ ((ex2 = 0 ∧ Ma.Cn 18446744073709551616 o2 (b ^ (n.toNat / 2 ^ (k - 1))) ∧ Ma.blen (b ^ (n.toNat / 2 ^ (k - 1))) ≤ 8192) ∨ (ex2 = 21 ∧ Ma.Cn 18446744073709551616 o2 0 ∧ 8192 < Ma.blen (b ^ n.toNat)))) (fun (z0 : Int × List Int × Value) => match z0 with | ⟨ex2, o2, vo2⟩ => [(6, vo2), (7, .int .i64 ex2)]) [0, 1, 8] (.cons rfl (.cons rfl (.cons rfl .nil))) ?_ ?_
      ·skip
       refine c_block (c_seq (c_region ?_))
       have hcb2 : ex = 0 := hc4.2
       obtain ⟨hcn, hbl⟩ : Ma.Cn 18446744073709551616 o (b ^ (n.toNat / 2 ^ k)) ∧ Ma.blen (b ^ (n.toNat / 2 ^ k)) ≤ 8192 := by
        rcases hinv with h | h
        ·exact h.2
        ·omega
       have hsh : (2 : Int) ^ (min ((k : Int) - 1).toNat IntKind.i64.bits) = 2 ^ (k - 1) := by
        show (2 : Int) ^ (min ((k : Int) - 1).toNat 64) = _
        rw [show ((k : Int) - 1).toNat = k - 1 from by omega, Nat.min_eq_left (by omega)]
       have hp2 := Ma.pow_pos (show (0 : Int) < 2 by omega) (k - 1)
       have hnd : n / 2 ^ (k - 1) = ((n.toNat / 2 ^ (k - 1) : Nat) : Int) := by
        rw [Int.natCast_ediv, Int.toNat_of_nonneg (by omega), Int.natCast_pow]; rfl
       have hnd1 : n.toNat / 2 ^ (k - 1) ≤ n.toNat := Nat.div_le_self _ _
       have hq0 : 0 ≤ n / 2 ^ (k - 1) := Int.ediv_nonneg (by omega) (by omega)
       have hq1 : n / 2 ^ (k - 1) ≤ n := Int.ediv_le_self _ (by omega)
       have hhalf := half_pow b n.toNat k (by omega)
       have hle : b ^ (n.toNat / 2 ^ (k - 1)) ≤ b ^ n.toNat := pow_mono_b (by omega) hnd1
       have hge : b ^ (n.toNat / 2 ^ k) * b ^ (n.toNat / 2 ^ k) ≤ b ^ (n.toNat / 2 ^ (k - 1)) := by
        have hpp := Ma.pow_pos (show 0 < b by omega) (n.toNat / 2 ^ k)
        have := Int.mul_pos hpp hpp
        rw [hhalf]
        split
        ·have := Int.mul_le_mul_of_nonneg_left (show 1 ≤ b by omega) (show 0 ≤ b ^ (n.toNat / 2 ^ k) * b ^ (n.toNat / 2 ^ k) by omega)
         rw [Int.mul_one] at this
         exact this
        ·omega
       have hpp := Ma.pow_pos (show 0 < b by omega) (n.toNat / 2 ^ k)
       have hpos := Int.mul_pos hpp hpp
       refine l_move rfl rfl rfl (l_move rfl rfl rfl ?_)
       refine l_call rfl rfl Tryz.func65 rfl rfl (.cons rfl (.cons rfl .nil)) (mulC hcn hcn hbl hbl (hw4.io mem0) (hw4.io mem0)) ?_
       rintro _ w5 ⟨vm, lm, rfl, hcm, hG⟩
       have hw5 := hG _ _ _ _ hw4
       try clear hG hw4
       simp only [List.cons_append, List.nil_append] at hw5
       refine l_move rfl rfl rfl (l_extract rfl rfl rfl rfl (l_extract rfl rfl rfl rfl (l_assign rfl rfl rfl (l_assign rfl rfl rfl (l_nil ?_)))))
       refine e_then ?_
       refine c_keep [0, 1, 6, 7, 8] (.cons rfl (.cons rfl (.cons rfl (.cons rfl (.cons rfl .nil))))) ?_
       refine c_seq (c_region (l_move rfl rfl rfl ?_))
       refine l_eql rfl rfl rfl rfl ?_
       refine l_move rfl rfl rfl ?_
       apply l_and 5 [0, 1, 6, 7, 8] rfl rfl (.cons rfl (.cons rfl (.cons rfl (.cons rfl (.cons rfl (.cons rfl .nil)))))) rfl rfl (fun _ => rfl) rfl rfl rfl
       ·intro hg14_3
        refine l_move rfl rfl rfl (l_move rfl rfl rfl ?_)
        refine l_shr rfl rfl rfl rfl (by omega) (shr_eq hsh (by omega)) ?_
        refine l_bits rfl rfl rfl rfl rfl (and_one ⟨hq0, Int.le_trans hq1 hn.2⟩) ?_
        refine l_eql rfl rfl rfl rfl ?_
        refine l_nil ?_
        exact e_stays rfl (.cons rfl (congrArg Value.bool (decide_eq_true hg14_3).symm) (.cons rfl rfl (.cons rfl rfl (.cons rfl rfl (.cons rfl rfl (.cons rfl rfl .nil))))))
       refine l_nil (e_then ?_)
       refine c_keep [0, 1, 6, 7, 8, 51] (.cons rfl (.cons rfl (.cons rfl (.cons rfl (.cons rfl (.cons rfl .nil)))))) ?_
       first | refine c_cond rfl (fun hc5 => ?_) (fun hc5 => ?_) | refine c_condb rfl (fun hc5 => ?_) (fun hc5 => ?_)
       ·skip
        refine c_region ?_
        have hC : ¬ 8192 < Ma.blen (b ^ (n.toNat / 2 ^ k) * b ^ (n.toNat / 2 ^ k)) := fun h => by have := hc5.1; rw [if_pos h] at this; omega
        rw [if_neg hC] at hcm
        have hbm : Ma.blen (b ^ (n.toNat / 2 ^ k) * b ^ (n.toNat / 2 ^ k)) ≤ 8192 := by omega
        have hcb : Ma.Cn 18446744073709551616 [b] b := ⟨fun x hx => by rw [List.mem_singleton.1 hx]; omega, ⟨fun _ => by omega, trivial⟩, by simp [Ma.vb]⟩
        have hbb : Ma.blen b ≤ 8192 := by
         have := (Ma.blen_le_iff (n := b) (by omega) 64).2 (by omega)
         omega
        have hbit : n.toNat / 2 ^ (k - 1) % 2 = 1 := by have := hc5.2; rw [hnd] at this; omega
        rw [if_pos hbit] at hhalf
        refine l_move rfl rfl rfl (l_move rfl rfl rfl ?_)
        refine v_lit hw5 rfl rfl Tryz.underlying117 ti65 rfl (.cons rfl (by first | rfl | assumption) .nil) rfl rfl rfl (fun b15_2 w6 hw6 => ?_)
        try clear hw5
        refine l_call rfl rfl Tryz.func65 rfl rfl (.cons rfl (.cons rfl .nil)) (mulC hcm hcb hbm hbb (hw6.io mem1) (hw6.ibl mem0)) ?_
        rintro _ w7 ⟨vz, lz, rfl, hcz, hG⟩
        have hw7 := hG _ _ _ _ hw6
        try clear hG hw6
        simp only [List.cons_append, List.nil_append] at hw7
        refine l_move rfl rfl rfl (l_extract rfl rfl rfl rfl (l_extract rfl rfl rfl rfl (l_assign rfl rfl rfl (l_assign rfl rfl rfl (l_nil ?_)))))
        refine e_blk ?_
        have hw8 := St.del (.tail (.tail (.tail .head))) hw7
        try clear hw7
        have hw9 := St.del (.tail (.tail .head)) hw8
        try clear hw8
        have hw10 := St.del (.tail .head) hw9
        try clear hw9
        refine e_meetk ((if 8192 < Ma.blen (b ^ (n.toNat / 2 ^ k) * b ^ (n.toNat / 2 ^ k) * b) then 21 else 0), lz, vz) ?_ (.cons rfl (.cons rfl (.cons rfl .nil))) ?_
        ·refine ⟨hw10, ?_⟩
         by_cases hD : 8192 < Ma.blen (b ^ (n.toNat / 2 ^ k) * b ^ (n.toNat / 2 ^ k) * b)
         ·rw [if_pos hD] at hcz
          refine .inr ⟨if_pos hD, hcz, ?_⟩
          rw [← hhalf] at hD
          have := Ma.blen_mono (by rw [hhalf]; exact Int.mul_nonneg (by omega) (by omega)) hle
          omega
         ·rw [if_neg hD] at hcz
          refine .inl ⟨if_neg hD, ?_, ?_⟩
          ·rw [hhalf]; exact hcz
          ·rw [hhalf]; omega
        ·exact (.cons rfl (by first | rfl | (refine congrArg (Value.int _) ?_; omega)) (.cons rfl (by first | rfl | (refine congrArg (Value.int _) ?_; omega)) .nil))
       ·skip
        refine c_skip ?_
        refine e_blk ?_
        have hw11 := St.del (.tail .head) hw5
        try clear hw5
        refine e_meetk ((if 8192 < Ma.blen (b ^ (n.toNat / 2 ^ k) * b ^ (n.toNat / 2 ^ k)) then 21 else 0), lm, vm) ?_ (.cons rfl (.cons rfl (.cons rfl .nil))) ?_
        ·refine ⟨hw11, ?_⟩
         by_cases hD : 8192 < Ma.blen (b ^ (n.toNat / 2 ^ k) * b ^ (n.toNat / 2 ^ k))
         ·rw [if_pos hD] at hcm
          refine .inr ⟨if_pos hD, hcm, ?_⟩
          have := Ma.blen_mono (by omega) (Int.le_trans hge hle)
          omega
         ·rw [if_neg hD] at hcm
          have hbit : ¬ n.toNat / 2 ^ (k - 1) % 2 = 1 := fun h => hc5 ⟨if_neg hD, by rw [hnd]; omega⟩
          rw [if_neg hbit, Int.mul_one] at hhalf
          refine .inl ⟨if_neg hD, ?_, ?_⟩
          ·rw [hhalf]; exact hcm
          ·rw [hhalf]; omega
        ·exact (.cons rfl (by first | rfl | (refine congrArg (Value.int _) ?_; omega)) (.cons rfl (by first | rfl | (refine congrArg (Value.int _) ?_; omega)) .nil))
      rintro ⟨ex2, o2, vo2⟩ w12 ⟨hw12, hinv2⟩
      show RunC P _ _ _ (_ :: _) _
      refine c_region (l_move rfl rfl rfl ?_)
      refine l_sub rfl rfl rfl rfl (w_i64 (by omega)) ?_
      refine l_assign rfl rfl rfl (l_nil ?_)
      refine e_againk (i := (k, ex, o, vo)) (k - 1, ex2, o2, vo2) ?_ ?_ (.cons rfl (.cons rfl .nil)) ?_
      ·first | omega | (simp; omega)
      ·exact ⟨hw12, by omega, hinv2⟩
      ·exact (.cons rfl (by first | rfl | (refine congrArg (Value.int _) ?_; omega)) (.cons rfl (by first | rfl | (refine congrArg (Value.int _) ?_; omega)) (.cons rfl (by first | rfl | (refine congrArg (Value.int _) ?_; omega)) .nil)))
     ·skip
      refine c_exit ?_
      refine e_then_exit ?_
      refine e_then_exit ?_
      refine e_blk_exit ?_
      refine e_then ?_
      refine c_keep [6, 7] (.cons rfl (.cons rfl .nil)) ?_
      refine c_seq (c_region (l_move rfl rfl rfl (l_move rfl rfl rfl (l_assign rfl rfl rfl (l_assign rfl rfl rfl ?_)))))
      refine l_nil (e_then ?_)
      refine c_keep [4, 5] (.cons rfl (.cons rfl .nil)) ?_
      refine c_ret ?_
      refine e_done2 Tryz.results63 rfl rfl ?_
      refine ⟨_, rfl, ?_⟩
      rcases hinv with ⟨h1, h2, h3⟩ | ⟨h1, h2, h3⟩
      ·obtain rfl : k = 0 := by omega
       rw [Nat.pow_zero, Nat.div_one] at h2 h3
       rw [powS_ok hc0 h3, h1]
       exact ⟨_, _, rfl, h2, hw4.grows⟩
      ·rw [powS_long hc0 h3, h1]
       exact ⟨_, _, rfl, h2, hw4.grows⟩
theorem U.two {x y : Int} (hx : 0 ≤ x ∧ x ≤ 18446744073709551615) (hy : 0 ≤ y ∧ y ≤ 18446744073709551615) : U [x, y] := fun z hz => by
 simp at hz
 rcases hz with rfl | rfl
 ·exact hx
 ·exact hy
end Go.Proofs.YtggdkplphfofkaaGreat.W
