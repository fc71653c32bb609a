/- walks of the reference's Over, DivMod -/
import Derived.Test.YtggdkplphfofkaaGreatRe
import Derived.Test.YtggdkplphfofkaaGreatFm
set_option linter.unusedVariables false
set_option linter.unusedSimpArgs false
set_option maxRecDepth 10000
namespace Go.Proofs.YtggdkplphfofkaaGreat.W
open Go.Vc Go.RowKit
theorem R16_one : R16 [1] 1 := ⟨fun x hx => by rw [List.mem_singleton.1 hx]; omega, ⟨fun _ => by omega, trivial⟩, by decide⟩
theorem digit_of : ∀ {l : List Int}, D16 l → ∀ j, l.getD j 0 = rv l / 65536 ^ j % 65536
 | [], _, j => by simp [Ma.vb]
 | x :: l, h, 0 => by
  have hx := h x (.head _)
  show x = (x + 65536 * rv l) / 65536 ^ 0 % 65536
  rw [Int.pow_zero, Int.ediv_one]
  omega
 | x :: l, h, j + 1 => by
  have hx := h x (.head _)
  have ih := digit_of (l := l) (fun y hy => h y (.tail _ hy)) j
  have e : rv (x :: l) / 65536 = rv l := by
   show (x + 65536 * rv l) / 65536 = rv l
   omega
  rw [List.getD_cons_succ, ih, Int.pow_succ, Int.mul_comm, ← Int.ediv_ediv_of_nonneg (show (0 : Int) ≤ 65536 by omega), e]
theorem bit_of {y p c : Int} (hp : 0 < p) (hc : 0 < c) : y % (p * (2 * c)) / p % 2 = y / p % 2 := by
 have e := Int.emod_add_mul_ediv y (p * (2 * c))
 have h1 : y / p = y % (p * (2 * c)) / p + 2 * c * (y / (p * (2 * c))) := by
  have e5 : p * (2 * c * (y / (p * (2 * c)))) = p * (2 * c) * (y / (p * (2 * c))) := (Int.mul_assoc ..).symm
  have : y = y % (p * (2 * c)) + p * (2 * c * (y / (p * (2 * c)))) := by rw [e5]; omega
  conv => lhs; rw [this]
  rw [Int.add_mul_ediv_left _ _ (by omega)]
 rw [h1, Int.mul_assoc]
 omega
theorem b16 {e : Nat} (he : e ≤ 15) : (65536 : Int) = 2 ^ e * (2 * 2 ^ (15 - e)) := by
 have h : (2 : Int) * 2 ^ (15 - e) = 2 ^ (16 - e) := by
  have h2 : (2 : Int) ^ (15 - e + 1) = 2 ^ (15 - e) * 2 := Int.pow_succ ..
  rw [show 16 - e = 15 - e + 1 from by omega, h2, Int.mul_comm]
 rw [h, ← Int.pow_add, show e + (16 - e) = 16 from by omega]
 rfl
theorem split16 (i : Nat) : (65536 : Int) ^ (i / 16) * 2 ^ (i % 16) = 2 ^ i := by
 rw [p16, ← Int.pow_add, show 16 * (i / 16) + i % 16 = i from by omega]
theorem bit_at {l : List Int} (h : D16 l) (i : Nat) : l.getD (i / 16) 0 / 2 ^ (i % 16) % 2 = rv l / 2 ^ i % 2 := by
 have hp := Ma.pow_pos (show (0 : Int) < 2 by omega) (i % 16)
 have hc := Ma.pow_pos (show (0 : Int) < 2 by omega) (15 - i % 16)
 have hb := b16 (e := i % 16) (by omega)
 rw [digit_of h]
 have h1 := bit_of (y := rv l / 65536 ^ (i / 16)) hp hc
 rw [← hb] at h1
 rw [h1, Int.ediv_ediv_of_nonneg (Int.le_of_lt (Ma.pow_pos (by omega) _)), split16]
theorem room_at {l : List Int} (h : D16 l) {Q : Int} {i : Nat} (hv : rv l = Q * (2 * 2 ^ i)) : l.getD (i / 16) 0 + 2 ^ (i % 16) ≤ 65535 := by
 have hp := Ma.pow_pos (show (0 : Int) < 2 by omega) (i % 16)
 have hc := Ma.pow_pos (show (0 : Int) < 2 by omega) (15 - i % 16)
 have hb := b16 (e := i % 16) (by omega)
 have hB := Ma.pow_pos (show (0 : Int) < 65536 by omega) (i / 16)
 have e1 : rv l / 65536 ^ (i / 16) = 2 ^ (i % 16) * 2 * Q := by
  have : rv l = 65536 ^ (i / 16) * (2 ^ (i % 16) * 2 * Q) := by
   rw [hv, ← split16 i, Int.mul_comm Q, Int.mul_comm 2, Int.mul_assoc, Int.mul_assoc, Int.mul_assoc]
  rw [this, Int.mul_ediv_cancel_left _ (by omega)]
 have e2 : (65536 : Int) = 2 ^ (i % 16) * 2 * 2 ^ (15 - i % 16) := by rw [Int.mul_assoc]; exact hb
 have e3 : 2 ^ (i % 16) * 2 * Q % 65536 = 2 ^ (i % 16) * 2 * (Q % 2 ^ (15 - i % 16)) := by
  rw [e2, Int.mul_emod_mul_of_pos _ _ (by omega)]
 rw [digit_of h, e1, e3]
 have h1 := Int.emod_lt_of_pos Q hc
 have h2 : 2 ^ (i % 16) * 2 * (Q % 2 ^ (15 - i % 16) + 1) ≤ 2 ^ (i % 16) * 2 * 2 ^ (15 - i % 16) := Int.mul_le_mul_of_nonneg_left (by omega) (by omega)
 rw [← e2, Int.mul_add, Int.mul_one] at h2
 omega
theorem overR (a b : Value) (la lb : List Int) (na nb : Int) (hRa : R16 la na) (hRb : R16 lb nb) (hLa : la.length ≤ 1048576) (hLb : lb.length ≤ 1048576) (hb0 : 0 < nb) (w : World) (ha : IV w a (ints .i64 la)) (hb : IV w b (ints .i64 lb)) :
  CallsV P 43 [a, b] w fun r w' => ∃ vq vr lq lr, r = .tuple #[vq, vr] ∧ R16 lq (na / nb) ∧ R16 lr (na % nb) ∧ Grow w w' [As.ri 3 .i64 vq lq, As.ri 3 .i64 vr lr] := by
 refine enterW Tryz.func43 rfl Tryz.ntmps43 rfl ?_
 have hw0 := St.start w
 have hDa := hRa.d
 have hna := hRa.nonneg (by omega)
 have hbl := hRa.blen
 have hbl0 := Ma.blen_nonneg na
 have hblb := hRb.blen
 refine c_seq (c_region (l_assign rfl rfl rfl (l_assign rfl rfl rfl (l_nil (e_then ?_)))))
 refine c_keep [0, 1] (.cons rfl (.cons rfl .nil)) ?_
 refine c_seq (c_region (l_move rfl rfl rfl ?_))
 refine v_leni rfl rfl Tryz.underlying32 rfl (by first | exact hw0.iarg ha | exact hw0.iarg hb | assumption) ?_
 refine v_make (m := la.length) (c := la.length) hw0 rfl rfl Tryz.underlying32 ti3 rfl rfl rfl (by omega) (by omega) (by omega) (by omega) (by omega) (fun v1_2 w1 hw1 => ?_)
 try clear hw0
 refine l_assign rfl rfl rfl (l_nil (e_then ?_))
 refine c_keep [0, 1, 6] (.cons rfl (.cons rfl (.cons rfl .nil))) ?_
 refine c_seq (c_region (l_assign rfl rfl rfl (l_nil (e_then (c_seq ?_)))))
 refine c_seq (c_region (l_move rfl rfl rfl ?_))
 refine l_callp rfl rfl Tryz.func39 rfl rfl (.cons rfl .nil) (bitsR _ la na hRa (by omega) w1 (hw1.iarg ha)) ?_
 refine l_sub rfl rfl rfl rfl (w_i64 (by omega)) ?_
 refine l_assign rfl rfl rfl (l_nil (e_then ?_))
 refine c_keep [0, 1, 6, 7, 8] (.cons rfl (.cons rfl (.cons rfl (.cons rfl (.cons rfl .nil))))) ?_
 refine c_block ?_
 refine c_loopk (ι := Nat × List Int × Int × List Int × Value × Int) (fun (z0 : Nat × List Int × Int × List Int × Value × Int) => match z0 with | ⟨k, o, m, lr, vr, Q⟩ => k) (fun (z0 : Nat × List Int × Int × List Int × Value × Int) (w' : World) => match z0 with | ⟨k, o, m, lr, vr, Q⟩ => St w w.heap.size None' ([As.ri 3 .i64 vr lr, As.ri 3 .i64 v1_2 o]) w' ∧ k ≤ 16 * la.length ∧ o.length = la.length ∧ D16 o ∧ R16 lr m ∧ 0 ≤ m ∧ m < nb ∧ rv o = Q * 2 ^ k ∧ na / 2 ^ k = Q * nb + m) (fun (z0 : Nat × List Int × Int × List Int × Value × Int) => match z0 with | ⟨k, o, m, lr, vr, Q⟩ => [(7, vr), (8, .int .i64 ((k : Int) - 1))]) [0, 1, 6] ((Ma.blen na).toNat, List.replicate la.length 0, 0, [], .slice none 0 0, 0) ?_ (.cons rfl (.cons rfl (.cons rfl .nil))) ?_ ?_
 ·have hz : na / 2 ^ (Ma.blen na).toNat = 0 := Int.ediv_eq_zero_of_lt hna ((Ma.blen_le_iff hna _).1 (by omega))
  exact ⟨(hw1.cast (by rw [ints_replicate])).nil 3, by omega, by simp, fun y hy => by rw [List.eq_of_mem_replicate hy]; omega, Ma.Cn.nil, by omega, hb0, by rw [Int.zero_mul]; exact Ma.vb_zeros _ _, by rw [hz, Int.zero_mul]; rfl⟩
 ·exact (.cons rfl (by first | rfl | (refine congrArg (Value.int _) ?_; omega)) (.cons rfl (by first | rfl | (refine congrArg (Value.int _) ?_; omega)) .nil))
 rintro ⟨k, o, m, lr, vr, Q⟩ w2 ⟨hw2, hk, hol, hDo, hRm, hm0, hm1, hoQ, hnQ⟩
 show RunC P _ _ _ (_ :: _) _
 refine c_seq (c_seq (c_region (l_move rfl rfl rfl ?_)))
 refine l_geq rfl rfl rfl rfl ?_
 refine l_nil (e_then ?_)
 refine c_keep [0, 1, 6, 7, 8, 16] (.cons rfl (.cons rfl (.cons rfl (.cons rfl (.cons rfl (.cons rfl .nil)))))) ?_
 first | refine c_cond rfl (fun hc0 => ?_) (fun hc0 => ?_) | refine c_condb rfl (fun hc0 => ?_) (fun hc0 => ?_)
 ·skip
  refine c_skip (e_then ?_)
  refine c_keep [0, 1, 6, 7, 8] (.cons rfl (.cons rfl (.cons rfl (.cons rfl (.cons rfl .nil))))) ?_
  refine c_seq (c_block (c_seq (c_region ?_)))
  have hlm := hRm.len_mono hRb (by omega)
  refine l_move rfl rfl rfl (l_move rfl rfl rfl ?_)
  refine l_call rfl rfl Tryz.func44 rfl rfl (.cons rfl (.cons rfl .nil)) (sumR _ _ lr lr m m hRm hRm (by omega) (by omega) w2 (hw2.io mem0) (hw2.io mem0)) ?_
  rintro v2 w3 ⟨_, l2, rfl, hR2, hG⟩
  have hw3 := hG _ _ _ _ hw2
  try clear hG hw2
  simp only [List.cons_append, List.nil_append] at hw3
  have hl2 := hR2.len (k := (Ma.blen nb + 1).toNat) (by have := blen_add (x := m) (y := m) (m := (Ma.blen nb).toNat) (by omega) (by omega) (by have := Ma.blen_mono (a := m) (b := nb) (by omega) (by omega); have := Ma.blen_nonneg nb; omega) (by have := Ma.blen_mono (a := m) (b := nb) (by omega) (by omega); have := Ma.blen_nonneg nb; omega); have := Ma.blen_nonneg nb; omega)
  have hbn := Ma.blen_nonneg nb
  have hp2 := Ma.pow_pos (show (0 : Int) < 2 by omega) ((k - 1) % 16)
  have hp15 : (2 : Int) ^ ((k - 1) % 16) ≤ 32768 := by
   have := Ma.pow_mono (show (1 : Int) ≤ 2 by omega) (show (k - 1) % 16 ≤ 15 by omega)
   have e15 : (2 : Int) ^ 15 = 32768 := by decide
   omega
  have hpi := Ma.pow_pos (show (0 : Int) < 2 by omega) (k - 1)
  have ek : (2 : Int) ^ k = 2 * 2 ^ (k - 1) := by rw [pow_pred 2 (show 0 < k by omega), Int.mul_comm]
  have hki : (k - 1) / 16 < la.length := by omega
  have hw4 := St.del (.tail .head) hw3
  try clear hw3
  refine l_assign rfl rfl rfl (l_nil (e_then ?_))
  refine c_keep [0, 1, 6, 7, 8] (.cons rfl (.cons rfl (.cons rfl (.cons rfl (.cons rfl .nil))))) ?_
  refine c_cutk (ι := List Int × Value × Int) (fun (z0 : List Int × Value × Int) (w' : World) => match z0 with | ⟨l4, v4, m4⟩ => St w w.heap.size None' ([As.ri 3 .i64 v4 l4, As.ri 3 .i64 v1_2 o]) w' ∧ R16 l4 m4 ∧ m4 = 2 * m + na / 2 ^ (k - 1) % 2) (fun (z0 : List Int × Value × Int) => match z0 with | ⟨l4, v4, m4⟩ => [(7, v4)]) [0, 1, 6, 8] (.cons rfl (.cons rfl (.cons rfl (.cons rfl .nil)))) ?_ ?_
  ·skip
   refine c_seq ?_
   refine c_still (by kernel_rfl) (by kernel_rfl) ?_
   have hw5 := hw4.drewn
   try clear hw4
   refine l_move rfl rfl rfl (l_move rfl rfl rfl ?_)
   refine l_quo rfl rfl rfl rfl (by omega) (q_i64 (by omega)) ?_
   refine v_getr (j := (k - 1) / 16) rfl rfl rfl rfl Tryz.underlying32 tz3 Tryz.underlying3 rfl rfl (by first | exact hw5.io mem0 | exact hw5.io mem1 | exact hw5.iarg ha | exact hw5.iarg hb | assumption) (by assumption) rfl (by omega) (by first | omega | (simp; done) | (simp; omega)) (fun hb7_3 => ?_)
   refine l_move rfl rfl rfl ?_
   refine l_rem rfl rfl rfl rfl (by omega) (r_pos (by omega)) ?_
   refine l_turn (s := 28) (v' := .int .i64 (((k - 1) % 16 : Nat) : Int)) rfl (by refine congrArg (Value.int _) ?_; omega) ?_
   refine l_callp rfl rfl Tryz.func54 rfl rfl (.cons rfl .nil) (twoR ((k - 1) % 16) (by omega) _) ?_
   have hga := getD_d hDa ((k - 1) / 16)
   refine l_quo rfl rfl rfl rfl (by omega) (q_i64 (by omega)) ?_
   have hgq : 0 ≤ la.getD ((k - 1) / 16) 0 / 2 ^ ((k - 1) % 16) := Int.ediv_nonneg hga.1 (by omega)
   refine l_rem rfl rfl rfl rfl (by omega) (r_pos (by omega)) ?_
   have hbit := bit_at hDa (k - 1)
   rw [show rv la = na from hRa.val] at hbit
   refine l_eql rfl rfl rfl rfl ?_
   refine l_nil (e_then ?_)
   refine c_keep [0, 1, 6, 7, 8, 32] (.cons rfl (.cons rfl (.cons rfl (.cons rfl (.cons rfl (.cons rfl .nil)))))) ?_
   first | refine c_cond rfl (fun hc1 => ?_) (fun hc1 => ?_) | refine c_condb rfl (fun hc1 => ?_) (fun hc1 => ?_)
   ·skip
    refine c_region (l_move rfl rfl rfl ?_)
    refine v_lit hw5 rfl rfl Tryz.underlying32 ti3 rfl (.cons rfl (by first | rfl | assumption) .nil) rfl rfl rfl (fun b8_1 w6 hw6 => ?_)
    try clear hw5
    refine l_call rfl rfl Tryz.func44 rfl rfl (.cons rfl (.cons rfl .nil)) (sumR _ _ l2 [1] _ 1 hR2 R16_one (by omega) (by simp) w6 (hw6.io mem1) (hw6.ibl mem0)) ?_
    rintro v3 w7 ⟨_, l3, rfl, hR3, hG⟩
    have hw7 := hG _ _ _ _ hw6
    try clear hG hw6
    simp only [List.cons_append, List.nil_append] at hw7
    have hw8 := St.del (.tail .head) hw7
    try clear hw7
    have hw9 := St.del (.tail .head) hw8
    try clear hw8
    refine l_assign rfl rfl rfl (l_nil ?_)
    refine e_meetk (l3, v3, m + m + 1) ?_ (.cons rfl (.cons rfl (.cons rfl (.cons rfl .nil)))) ?_
    ·exact ⟨hw9, hR3, by omega⟩
    ·exact (.cons rfl (by first | rfl | (refine congrArg (Value.int _) ?_; omega)) .nil)
   ·skip
    refine c_skip ?_
    refine e_meetk (l2, v2, m + m) ?_ (.cons rfl (.cons rfl (.cons rfl (.cons rfl .nil)))) ?_
    ·exact ⟨hw5, hR2, by omega⟩
    ·exact (.cons rfl (by first | rfl | (refine congrArg (Value.int _) ?_; omega)) .nil)
  rintro ⟨l4, v4, m4⟩ w10 ⟨hw10, hR4, hm4⟩
  show RunC P _ _ _ (_ :: _) _
  refine c_seq (c_region ?_)
  have hbt2 : 0 ≤ na / 2 ^ (k - 1) % 2 ∧ na / 2 ^ (k - 1) % 2 ≤ 1 := by omega
  have hlt2 : m4 < 2 * nb := by omega
  have hl4 := hR4.len (k := (Ma.blen nb + 1).toNat) (by have h9 := (Ma.blen_le_iff (n := m4) (by omega) ((Ma.blen nb).toNat + 1)).2 (by rw [Int.pow_succ]; have := (Ma.blen_le_iff (n := nb) (by omega) (Ma.blen nb).toNat).1 (by omega); omega); omega)
  have hov := over_step hpi (vq := rv o) (nA := na) (nb := nb) (vr := m) (Q := Q) (by rw [hoQ, ek]) (by rw [← ek]; exact hnQ) ⟨hm0, hm1⟩
  refine l_move rfl rfl rfl (l_move rfl rfl rfl ?_)
  refine l_call rfl rfl Tryz.func56 rfl rfl (.cons rfl (.cons rfl .nil)) (cmpR _ _ l4 lb m4 nb hR4 hRb (by omega) (by omega) w10 (hw10.io mem0) (hw10.iarg hb)) ?_
  rintro _ w11 ⟨rfl, hG⟩
  have hw11 := hG _ _ _ _ hw10
  try clear hG hw10
  simp only [List.cons_append, List.nil_append] at hw11
  refine l_geq rfl rfl rfl rfl ?_
  refine l_nil (e_then ?_)
  refine c_keep [0, 1, 6, 7, 8, 39] (.cons rfl (.cons rfl (.cons rfl (.cons rfl (.cons rfl (.cons rfl .nil)))))) ?_
  first | refine c_cond rfl (fun hc2 => ?_) (fun hc2 => ?_) | refine c_condb rfl (fun hc2 => ?_) (fun hc2 => ?_)
  ·skip
   refine c_seq (c_region ?_)
   have hge : nb ≤ m4 := by
    rcases Int.lt_or_le m4 nb with h | h
    ·exact absurd (cmpI_neg.2 h) (by omega)
    ·exact h
   have hov1 := hov.1 (by omega)
   have hroom := room_at hDo (Q := Q) (i := k - 1) (by rw [hoQ, ek])
   have hgo := getD_d hDo ((k - 1) / 16)
   refine l_move rfl rfl rfl (l_move rfl rfl rfl ?_)
   refine l_call rfl rfl Tryz.func57 rfl rfl (.cons rfl (.cons rfl .nil)) (lessR _ _ l4 lb m4 nb hR4 hRb (by omega) (by omega) hge w11 (hw11.io mem0) (hw11.iarg hb)) ?_
   rintro v5 w12 ⟨_, l5, rfl, hR5, hG⟩
   have hw12 := hG _ _ _ _ hw11
   try clear hG hw11
   simp only [List.cons_append, List.nil_append] at hw12
   have hw13 := St.del (.tail .head) hw12
   try clear hw12
   refine l_assign rfl rfl rfl (l_nil (e_then ?_))
   refine c_keep [0, 1, 6, 7, 8] (.cons rfl (.cons rfl (.cons rfl (.cons rfl (.cons rfl .nil))))) ?_
   have hw14 := hw13.drewn
   try clear hw13
   obtain ⟨A11, c11, hv11⟩ := (hw14.io mem1).lies (by simp; omega)
   refine c_any (n := 14) [false, false, false, false, false, false, false, false, false, false, false, false, false, false] (fun wS => True) (by kernel_rfl) rfl rfl ?_
   apply a_take (L' := [true, false, false, false, false, false, false, false, false, false, false, false, false, false]) 0 rfl (by kernel_rfl) (by kernel_rfl) (by kernel_rfl) rfl rfl rfl rfl rfl (trivial)
   ·intro wS sS
    refine l_move rfl rfl rfl (l_nil ?_)
    exact e_got rfl
   apply a_take (L' := [true, true, false, false, false, false, false, false, false, false, false, false, false, false]) 1 rfl (by kernel_rfl) (by kernel_rfl) (by kernel_rfl) rfl rfl rfl rfl rfl (trivial)
   ·intro wS sS
    refine l_move rfl rfl rfl (l_nil ?_)
    exact e_got rfl
   apply a_take (L' := [true, true, true, false, false, false, false, false, false, false, false, false, false, false]) 2 rfl (by kernel_rfl) (by kernel_rfl) (by kernel_rfl) rfl rfl rfl rfl rfl (trivial)
   ·intro wS sS
    refine l_quo rfl rfl rfl rfl (by omega) (q_i64 (by omega)) ?_
    refine l_nil ?_
    exact e_got rfl
   apply a_take (L' := [true, true, true, true, false, false, false, false, false, false, false, false, false, false]) 3 rfl (by kernel_rfl) (by kernel_rfl) (by kernel_rfl) rfl rfl rfl rfl rfl (trivial)
   ·intro wS sS
    refine l_move rfl rfl rfl (l_nil ?_)
    exact e_got rfl
   apply a_take (L' := [true, true, true, true, true, false, false, false, false, false, false, false, false, false]) 4 rfl (by kernel_rfl) (by kernel_rfl) (by kernel_rfl) rfl rfl rfl rfl rfl (trivial)
   ·intro wS sS
    refine l_move rfl rfl rfl (l_nil ?_)
    exact e_got rfl
   apply a_take (L' := [true, true, true, true, true, true, false, false, false, false, false, false, false, false]) 5 rfl (by kernel_rfl) (by kernel_rfl) (by kernel_rfl) rfl rfl rfl rfl rfl (trivial)
   ·intro wS sS
    refine l_quo rfl rfl rfl rfl (by omega) (q_i64 (by omega)) ?_
    refine l_nil ?_
    exact e_got rfl
   apply a_take (L' := [true, true, true, true, true, true, true, false, false, false, false, false, false, false]) 6 rfl (by kernel_rfl) (by kernel_rfl) (by kernel_rfl) rfl rfl rfl rfl rfl (trivial)
   ·intro wS sS
    refine v_addrx (j := (k - 1) / 16) rfl rfl Tryz.underlying32 tz3 rfl rfl hv11 (by first | rfl | omega) (by first | omega | (simp; done) | (simp; omega)) ?_
    refine l_nil ?_
    exact e_got rfl
   apply a_take (L' := [true, true, true, true, true, true, true, false, true, false, false, false, false, false]) 8 rfl (by kernel_rfl) (by kernel_rfl) (by kernel_rfl) rfl rfl rfl rfl rfl (trivial)
   ·intro wS sS
    refine l_move rfl rfl rfl (l_nil ?_)
    exact e_got rfl
   apply a_take (L' := [true, true, true, true, true, true, true, false, true, true, false, false, false, false]) 9 rfl (by kernel_rfl) (by kernel_rfl) (by kernel_rfl) rfl rfl rfl rfl rfl (trivial)
   ·intro wS sS
    refine l_rem rfl rfl rfl rfl (by omega) (r_pos (by omega)) ?_
    refine l_nil ?_
    exact e_got rfl
   refine a_two (L' := [true, true, true, true, true, true, true, true, true, true, false, false, false, false]) (L'' := [true, true, true, true, true, true, true, false, true, true, true, false, false, false]) 7 10 (by kernel_rfl) rfl rfl rfl rfl ?_ ?_
   ·skip
    refine v_loadi rfl rfl Tryz.underlying3 rfl hv11 (by first | exact hw14.io mem0 | exact hw14.io mem1 | exact hw14.iarg ha | exact hw14.iarg hb | assumption) (by assumption) (by first | omega | (simp; done) | (simp; omega)) (fun hb11_7 => ?_)
    refine l_nil ?_
    refine e_any (trivial) ?_
    refine a_one (L' := [true, true, true, true, true, true, true, true, true, true, true, false, false, false]) 10 (by kernel_rfl) rfl rfl ?_
    refine l_turn (s := 52) (v' := .int .i64 (((k - 1) % 16 : Nat) : Int)) rfl (by refine congrArg (Value.int _) ?_; omega) ?_
    refine l_callp rfl rfl Tryz.func54 rfl rfl (.cons rfl .nil) (twoR ((k - 1) % 16) (by omega) _) ?_
    refine l_nil ?_
    refine e_any (trivial) ?_
    apply a_take (L' := [true, true, true, true, true, true, true, true, true, true, true, true, false, false]) 11 rfl (by kernel_rfl) (by kernel_rfl) (by kernel_rfl) rfl rfl rfl rfl rfl (trivial)
    ·intro wS sS
     refine l_add rfl rfl rfl rfl (w_i64 (by omega)) ?_
     refine l_nil ?_
     exact e_got rfl
    apply a_take (L' := [true, true, true, true, true, true, true, true, true, true, true, true, true, false]) 12 rfl (by kernel_rfl) (by kernel_rfl) (by kernel_rfl) rfl rfl rfl rfl rfl (trivial)
    ·intro wS sS
     refine v_addrx (j := (k - 1) / 16) rfl rfl Tryz.underlying32 tz3 rfl rfl hv11 (by first | rfl | omega) (by first | omega | (simp; done) | (simp; omega)) ?_
     refine l_nil ?_
     exact e_got rfl
    refine a_one (L' := [true, true, true, true, true, true, true, true, true, true, true, true, true, true]) 13 (by kernel_rfl) rfl rfl ?_
    refine v_storei hw14 (.tail .head) hv11 rfl tz3 rfl rfl (by first | omega | (simp; done) | (simp; omega)) (fun w15 hw15 => ?_)
    try clear hw14
    refine l_nil ?_
    refine e_any (trivial) ?_
    refine a_done (by kernel_rfl) ?_
    refine e_blk ?_
    refine e_then ?_
    refine c_keep [0, 1, 6, 7, 8] (.cons rfl (.cons rfl (.cons rfl (.cons rfl (.cons rfl .nil))))) ?_
    refine c_region (l_move rfl rfl rfl ?_)
    refine l_sub rfl rfl rfl rfl (w_i64 (by omega)) ?_
    refine l_assign rfl rfl rfl (l_nil ?_)
    refine e_againk (i := (k, o, m, lr, vr, Q)) (k - 1, o.set ((k - 1) / 16) (o.getD ((k - 1) / 16) 0 + 2 ^ ((k - 1) % 16)), m4 - nb, l5, v5, 2 * Q + 1) ?_ ?_ (.cons rfl (.cons rfl (.cons rfl .nil))) ?_
    ·first | omega | (simp; omega)
    ·have h1 := Ma.vb_set_at 65536 o ((k - 1) / 16) (o.getD ((k - 1) / 16) 0 + 2 ^ ((k - 1) % 16)) (by omega)
     have e1 : rv (o.set ((k - 1) / 16) (o.getD ((k - 1) / 16) 0 + 2 ^ ((k - 1) % 16))) = (2 * Q + 1) * 2 ^ (k - 1) := by
      rw [← hov1.1, show rv (o.set ((k - 1) / 16) (o.getD ((k - 1) / 16) 0 + 2 ^ ((k - 1) % 16))) = _ from h1, show o.getD ((k - 1) / 16) 0 + 2 ^ ((k - 1) % 16) - o.getD ((k - 1) / 16) 0 = 2 ^ ((k - 1) % 16) from by omega, split16]
     refine ⟨hw15, by omega, by simpa using hol, fun y hy => (List.mem_or_eq_of_mem_set hy).elim (hDo y) (fun e => by rw [e]; omega), hR5, by omega, by omega, e1, by rw [hov1.2.1]; omega⟩
    ·exact (.cons rfl (by first | rfl | (refine congrArg (Value.int _) ?_; omega)) (.cons rfl (by first | rfl | (refine congrArg (Value.int _) ?_; omega)) .nil))
   ·skip
    refine l_turn (s := 52) (v' := .int .i64 (((k - 1) % 16 : Nat) : Int)) rfl (by refine congrArg (Value.int _) ?_; omega) ?_
    refine l_callp rfl rfl Tryz.func54 rfl rfl (.cons rfl .nil) (twoR ((k - 1) % 16) (by omega) _) ?_
    refine l_nil ?_
    refine e_any (trivial) ?_
    refine a_one (L' := [true, true, true, true, true, true, true, true, true, true, true, false, false, false]) 7 (by kernel_rfl) rfl rfl ?_
    refine v_loadi rfl rfl Tryz.underlying3 rfl hv11 (by first | exact hw14.io mem0 | exact hw14.io mem1 | exact hw14.iarg ha | exact hw14.iarg hb | assumption) (by assumption) (by first | omega | (simp; done) | (simp; omega)) (fun hb11_7 => ?_)
    refine l_nil ?_
    refine e_any (trivial) ?_
    apply a_take (L' := [true, true, true, true, true, true, true, true, true, true, true, true, false, false]) 11 rfl (by kernel_rfl) (by kernel_rfl) (by kernel_rfl) rfl rfl rfl rfl rfl (trivial)
    ·intro wS sS
     refine l_add rfl rfl rfl rfl (w_i64 (by omega)) ?_
     refine l_nil ?_
     exact e_got rfl
    apply a_take (L' := [true, true, true, true, true, true, true, true, true, true, true, true, true, false]) 12 rfl (by kernel_rfl) (by kernel_rfl) (by kernel_rfl) rfl rfl rfl rfl rfl (trivial)
    ·intro wS sS
     refine v_addrx (j := (k - 1) / 16) rfl rfl Tryz.underlying32 tz3 rfl rfl hv11 (by first | rfl | omega) (by first | omega | (simp; done) | (simp; omega)) ?_
     refine l_nil ?_
     exact e_got rfl
    refine a_one (L' := [true, true, true, true, true, true, true, true, true, true, true, true, true, true]) 13 (by kernel_rfl) rfl rfl ?_
    refine v_storei hw14 (.tail .head) hv11 rfl tz3 rfl rfl (by first | omega | (simp; done) | (simp; omega)) (fun w16 hw16 => ?_)
    try clear hw14
    refine l_nil ?_
    refine e_any (trivial) ?_
    refine a_done (by kernel_rfl) ?_
    refine e_blk ?_
    refine e_then ?_
    refine c_keep [0, 1, 6, 7, 8] (.cons rfl (.cons rfl (.cons rfl (.cons rfl (.cons rfl .nil))))) ?_
    refine c_region (l_move rfl rfl rfl ?_)
    refine l_sub rfl rfl rfl rfl (w_i64 (by omega)) ?_
    refine l_assign rfl rfl rfl (l_nil ?_)
    refine e_againk (i := (k, o, m, lr, vr, Q)) (k - 1, o.set ((k - 1) / 16) (o.getD ((k - 1) / 16) 0 + 2 ^ ((k - 1) % 16)), m4 - nb, l5, v5, 2 * Q + 1) ?_ ?_ (.cons rfl (.cons rfl (.cons rfl .nil))) ?_
    ·first | omega | (simp; omega)
    ·have h1 := Ma.vb_set_at 65536 o ((k - 1) / 16) (o.getD ((k - 1) / 16) 0 + 2 ^ ((k - 1) % 16)) (by omega)
     have e1 : rv (o.set ((k - 1) / 16) (o.getD ((k - 1) / 16) 0 + 2 ^ ((k - 1) % 16))) = (2 * Q + 1) * 2 ^ (k - 1) := by
      rw [← hov1.1, show rv (o.set ((k - 1) / 16) (o.getD ((k - 1) / 16) 0 + 2 ^ ((k - 1) % 16))) = _ from h1, show o.getD ((k - 1) / 16) 0 + 2 ^ ((k - 1) % 16) - o.getD ((k - 1) / 16) 0 = 2 ^ ((k - 1) % 16) from by omega, split16]
     refine ⟨hw16, by omega, by simpa using hol, fun y hy => (List.mem_or_eq_of_mem_set hy).elim (hDo y) (fun e => by rw [e]; omega), hR5, by omega, by omega, e1, by rw [hov1.2.1]; omega⟩
    ·exact (.cons rfl (by first | rfl | (refine congrArg (Value.int _) ?_; omega)) (.cons rfl (by first | rfl | (refine congrArg (Value.int _) ?_; omega)) .nil))
  ·skip
   refine c_skip ?_
   refine e_blk ?_
   refine e_then ?_
   refine c_keep [0, 1, 6, 7, 8] (.cons rfl (.cons rfl (.cons rfl (.cons rfl (.cons rfl .nil))))) ?_
   refine c_region (l_move rfl rfl rfl ?_)
   refine l_sub rfl rfl rfl rfl (w_i64 (by omega)) ?_
   refine l_assign rfl rfl rfl (l_nil ?_)
   refine e_againk (i := (k, o, m, lr, vr, Q)) (k - 1, o, m4, l4, v4, 2 * Q) ?_ ?_ (.cons rfl (.cons rfl (.cons rfl .nil))) ?_
   ·first | omega | (simp; omega)
   ·have hlt3 : m4 < nb := by
     rcases Int.lt_or_le m4 nb with h | h
     ·exact h
     ·exact absurd (show cmpI m4 nb ≥ 0 by rcases Int.lt_or_le (cmpI m4 nb) 0 with h2 | h2; exact absurd (cmpI_neg.1 h2) (by omega); exact h2) hc2
    have hov2 := hov.2 (by omega)
    exact ⟨hw11, by omega, hol, hDo, hR4, by omega, hlt3, hov2.1, by rw [hov2.2]; omega⟩
   ·exact (.cons rfl (by first | rfl | (refine congrArg (Value.int _) ?_; omega)) (.cons rfl (by first | rfl | (refine congrArg (Value.int _) ?_; omega)) .nil))
 ·skip
  refine c_exit ?_
  refine e_then_exit ?_
  refine e_then_exit ?_
  refine e_blk_exit ?_
  refine e_then ?_
  refine c_keep [6, 7] (.cons rfl (.cons rfl .nil)) ?_
  refine c_seq (c_region (l_move rfl rfl rfl ?_))
  refine l_call rfl rfl Tryz.func58 rfl rfl (.cons rfl .nil) (trimR_turn hDo (by omega) (hw2.io mem1)) ?_
  rintro vq w17 ⟨_, rfl, hT, hiv⟩
  have hw17 := hT _ _ _ _ _ (.tail .head) hw2
  try clear hT hw2
  refine l_move rfl rfl rfl (l_assign rfl rfl rfl (l_assign rfl rfl rfl (l_nil (e_then ?_))))
  refine c_keep [4, 5] (.cons rfl (.cons rfl .nil)) ?_
  refine c_ret ?_
  refine e_done2 Tryz.results43 rfl rfl ?_
  refine ⟨_, rfl, ?_⟩
  have hw18 := St.front1 hw17
  try clear hw17
  obtain rfl : k = 0 := by omega
  rw [Int.pow_zero, Int.mul_one] at hoQ
  rw [Int.pow_zero, Int.ediv_one] at hnQ
  have hd := div_of (n := na) (y := nb) (Q := Q) (r := m) hnQ hm0 hm1
  rw [hd.1, hd.2]
  exact ⟨_, _, _, _, rfl, Ma.Cn.of_tr hDo.dg hoQ, hRm, hw18.grows⟩
end Go.Proofs.YtggdkplphfofkaaGreat.W
