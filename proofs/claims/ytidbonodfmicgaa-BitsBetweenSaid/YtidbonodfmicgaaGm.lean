/- walks of fraction, shifted; the law BitsBack -/
import Derived.Test.YtidbonodfmicgaaGj
import Derived.Test.YtidbonodfmicgaaGi
set_option linter.unusedVariables false
set_option linter.unusedSimpArgs false
set_option maxRecDepth 10000
namespace Go.Proofs.Ytidbonodfmicgaa.W
open Go.Vc Go.RowKit

/-- a float's value as a fraction over m, and a little more: what they are rounded to -/
theorem back_facts (d : Kd) {b m : Int} (hb : 0 ≤ b ∧ b < d.I) (hm : 3 ≤ m) {x y : Int} (hx : x = splM d b * m * 2 ^ (splE d b).toNat) (hy : y = m * 2 ^ (0 - splE d b).toNat) :
    0 < y ∧ 0 ≤ x ∧ RndR d.H (d.I - 1) (x * 2 ^ d.l) y (b, true, 0) ∧ RndR d.H (d.I - 1) ((x + 2 ^ (splE d b).toNat) * 2 ^ d.l) y (b, false, 0) := by
  have hp : ∀ k : Nat, (0 : Int) < 2 ^ k := fun k => Ma.pow_pos (by omega) k
  have hbd := d.bd
  have hfs := fv_spl d hb
  have hy0 : 0 < y := by rw [hy]; exact Int.mul_pos (by omega) (hp _)
  have hx0 : 0 ≤ x := by rw [hx]; exact Int.mul_nonneg (Int.mul_nonneg hfs.2.2.1 (by omega)) (Int.le_of_lt (hp _))
  have hpow : (2 : Int) ^ (splE d b + d.l).toNat * 2 ^ (0 - splE d b).toNat = 2 ^ (splE d b).toNat * 2 ^ d.l := by
    rw [← Int.pow_add, ← Int.pow_add]
    congr 1
    omega
  have hmul : ∀ c : Int, c * 2 ^ (splE d b + d.l).toNat * y = c * m * 2 ^ (splE d b).toNat * 2 ^ d.l := fun c => by
    rw [hy, Int.mul_assoc, Int.mul_left_comm _ m, hpow, ← Int.mul_assoc, ← Int.mul_assoc]
  have e1 : fv d.H b * y = x * 2 ^ d.l := by rw [hfs.2.2.2.2.1, hmul, hx]
  have e2 : fv d.H (b + 1) * y = x * 2 ^ d.l + m * (2 ^ (splE d b).toNat * 2 ^ d.l) := by
    rw [hfs.2.2.2.2.2, hmul, hx, Int.add_mul, Int.add_mul, Int.add_mul, Int.one_mul, Int.mul_assoc m]
  have hq : (0 : Int) < 2 ^ (splE d b).toNat * 2 ^ d.l := Int.mul_pos (hp _) (hp _)
  have hq3 : 3 * (2 ^ (splE d b).toNat * 2 ^ d.l) ≤ m * (2 ^ (splE d b).toNat * 2 ^ d.l) := Int.mul_le_mul_of_nonneg_right hm (Int.le_of_lt hq)
  refine ⟨hy0, hx0, near_exact hy0 ⟨hb.1, by omega⟩ e1, ?_⟩
  rw [Int.add_mul]
  generalize (2 : Int) ^ (splE d b).toNat * 2 ^ d.l = q at *
  refine near_down hy0 ⟨hb.1, by omega⟩ (by omega) (.inr (by omega)) (by omega) ?_
  unfold upR
  rw [Int.add_mul]
  omega

theorem fraction3 (neg : Bool) (man exp m : Int) (hm : 0 ≤ man ∧ man ≤ 18446744073709551615) (hmm : 0 ≤ m ∧ m ≤ 18446744073709551615) (he : -2000 ≤ exp ∧ exp ≤ 2000) (w : World) :
    CallsV P 20 [.agg #[.bool neg, .int .u64 man, .int .i64 exp], .int .u64 m] w fun r w' => ∃ v1 l1 v2 l2, r = .tuple #[v1, v2] ∧ Ma.Cn 18446744073709551616 l1 (man * m * 2 ^ exp.toNat) ∧ Ma.Cn 18446744073709551616 l2 (m * 2 ^ (0 - exp).toNat) ∧ Grow w w' [As.ri 24 .u64 v2 l2, As.ri 24 .u64 v1 l1] := by
  refine enterW Try.func20 rfl Try.ntmps20 rfl ?_
  have hw0 := St.start w
  refine c_seq ?_
  refine c_region ?_
  refine l_box hw0 rfl rfl rfl (fun b0_0 w1 hw1 => ?_)
  try clear hw0
  refine l_assign rfl rfl rfl ?_
  refine l_assign rfl rfl rfl ?_
  refine l_nil ?_
  refine e_then ?_
  refine c_keep [1, 2] (.cons rfl (.cons rfl .nil)) ?_
  refine c_seq ?_
  refine c_region ?_
  refine l_field fo34_1 rfl rfl rfl ?_
  refine l_load_blk hw1 mem0 rfl rfl Try.underlying24 rfl rfl rfl ?_
  refine v_lit hw1 rfl rfl Try.underlying22 ti24 rfl (.cons rfl (by first | rfl | assumption) .nil) rfl rfl rfl (fun b1_2 w2 hw2 => ?_)
  try clear hw1
  refine l_call rfl rfl Try.func23 rfl rfl (.cons rfl .nil) (numR _ [man] (U.one hm) (by simp) w2 (hw2.ibl mem0)) ?_
  rintro vn w3 ⟨_, ln, rfl, hRa, hG⟩
  have hw3 := hG _ _ _ _ hw2
  try clear hG hw2
  simp only [List.cons_append, List.nil_append] at hw3
  have hRa2 := hRa
  rw [show Ma.vb 18446744073709551616 [man] = man from nv_one _] at hRa2
  have hRal := R16.len_num (U.one hm) hRa
  simp only [List.length_cons, List.length_nil] at hRal
  refine l_move rfl rfl rfl ?_
  refine v_lit hw3 rfl rfl Try.underlying22 ti24 rfl (.cons rfl (by first | rfl | assumption) .nil) rfl rfl rfl (fun b1_5 w4 hw4 => ?_)
  try clear hw3
  refine l_call rfl rfl Try.func23 rfl rfl (.cons rfl .nil) (numR _ [m] (U.one hmm) (by simp) w4 (hw4.ibl mem0)) ?_
  rintro vm w5 ⟨_, lm, rfl, hRb, hG⟩
  have hw5 := hG _ _ _ _ hw4
  try clear hG hw4
  simp only [List.cons_append, List.nil_append] at hw5
  have hRb2 := hRb
  rw [show Ma.vb 18446744073709551616 [m] = m from nv_one _] at hRb2
  have hRbl := R16.len_num (U.one hmm) hRb
  simp only [List.length_cons, List.length_nil] at hRbl
  refine l_call rfl rfl Try.func50 rfl rfl (.cons rfl (.cons rfl .nil)) (prodR _ _ _ _ _ _ hRa2 hRb2 (by omega) (by omega) w5 (hw5.io mem2) (hw5.io mem0)) ?_
  rintro vx w6 ⟨_, lx, rfl, hRx, hG⟩
  have hw6 := hG _ _ _ _ hw5
  try clear hG hw5
  simp only [List.cons_append, List.nil_append] at hw6
  have hlx := hRa2.len_mul hRb2 hRx
  refine l_assign rfl rfl rfl ?_
  refine l_nil ?_
  refine e_then ?_
  refine c_keep [1, 2, 6] (.cons rfl (.cons rfl (.cons rfl .nil))) ?_
  refine c_seq ?_
  refine c_region ?_
  refine l_move rfl rfl rfl ?_
  refine v_lit hw6 rfl rfl Try.underlying22 ti24 rfl (.cons rfl (by first | rfl | assumption) .nil) rfl rfl rfl (fun b2_1 w7 hw7 => ?_)
  try clear hw6
  refine l_call rfl rfl Try.func23 rfl rfl (.cons rfl .nil) (numR _ [m] (U.one hmm) (by simp) w7 (hw7.ibl mem0)) ?_
  rintro vy w8 ⟨_, ly, rfl, hRy, hG⟩
  have hw8 := hG _ _ _ _ hw7
  try clear hG hw7
  simp only [List.cons_append, List.nil_append] at hw8
  have hRy2 := hRy
  rw [show Ma.vb 18446744073709551616 [m] = m from nv_one _] at hRy2
  have hRyl := R16.len_num (U.one hmm) hRy
  simp only [List.length_cons, List.length_nil] at hRyl
  refine l_assign rfl rfl rfl ?_
  refine l_nil ?_
  refine e_then ?_
  refine c_keep [2, 6, 7] (.cons rfl (.cons rfl (.cons rfl .nil))) ?_
  refine c_seq ?_
  refine c_seq ?_
  refine c_region ?_
  refine l_field fo34_2 rfl rfl rfl ?_
  refine l_load_blk hw8 mem7 rfl rfl Try.underlying3 rfl rfl rfl ?_
  refine l_geq rfl rfl rfl rfl ?_
  refine l_nil ?_
  refine e_then ?_
  refine c_keep [2, 6, 7, 21] (.cons rfl (.cons rfl (.cons rfl (.cons rfl .nil)))) ?_
  first | refine c_cond rfl (fun hc0 => ?_) (fun hc0 => ?_) | refine c_condb rfl (fun hc0 => ?_) (fun hc0 => ?_)
  · skip
    refine c_seq ?_
    refine c_region ?_
    refine l_move rfl rfl rfl ?_
    refine l_field fo34_2 rfl rfl rfl ?_
    refine l_load_blk hw8 mem7 rfl rfl Try.underlying3 rfl rfl rfl ?_
    refine l_turn (s := 24) (v' := .int .i64 ((exp.toNat : Nat) : Int)) rfl (by rw [Int.toNat_of_nonneg (by omega)]) ?_
    refine l_call rfl rfl Try.func46 rfl rfl (.cons rfl (.cons rfl .nil)) (leftR vx lx _ hRx (by omega) exp.toNat (by omega) w8 (hw8.io mem2)) ?_
    rintro vz w9 ⟨_, lz, rfl, hRz, hG⟩
    have hw9 := hG _ _ _ _ hw8
    try clear hG hw8
    simp only [List.cons_append, List.nil_append] at hw9
    have hlz := hRx.len_left hRz
    refine l_call rfl rfl Try.func21 rfl rfl (.cons rfl .nil) (wordsR vz lz _ hRz (by omega) w9 (hw9.io mem0)) ?_
    rintro wx w10 ⟨_, lwx, rfl, hcx, hG⟩
    have hw10 := hG _ _ _ _ hw9
    try clear hG hw9
    simp only [List.cons_append, List.nil_append] at hw10
    refine l_move rfl rfl rfl ?_
    refine l_call rfl rfl Try.func21 rfl rfl (.cons rfl .nil) (wordsR vy ly _ hRy2 (by omega) w10 (hw10.io mem2)) ?_
    rintro wy w11 ⟨_, lwy, rfl, hcy, hG⟩
    have hw11 := hG _ _ _ _ hw10
    try clear hG hw10
    simp only [List.cons_append, List.nil_append] at hw11
    refine l_assign rfl rfl rfl ?_
    refine l_assign rfl rfl rfl ?_
    refine l_nil ?_
    refine e_then ?_
    refine c_keep [4, 5] (.cons rfl (.cons rfl .nil)) ?_
    refine c_ret ?_
    refine e_then_ret ?_
    refine e_done2 Try.results20 rfl rfl ?_
    refine ⟨_, rfl, ?_⟩
    have hw12 := St.front1 hw11
    try clear hw11
    have hw13 := St.front1 hw12
    try clear hw12
    have hw14 := St.del (.tail (.tail (.tail (.tail (.tail (.tail (.tail (.tail (.tail (.tail .head)))))))))) hw13
    try clear hw13
    have hw15 := St.del (.tail (.tail (.tail (.tail (.tail (.tail (.tail (.tail (.tail .head))))))))) hw14
    try clear hw14
    have hw16 := St.del (.tail (.tail (.tail (.tail (.tail (.tail (.tail (.tail .head)))))))) hw15
    try clear hw15
    have hw17 := St.del (.tail (.tail (.tail (.tail (.tail (.tail (.tail .head))))))) hw16
    try clear hw16
    have hw18 := St.del (.tail (.tail (.tail (.tail (.tail (.tail .head)))))) hw17
    try clear hw17
    have hw19 := St.del (.tail (.tail (.tail (.tail (.tail .head))))) hw18
    try clear hw18
    have hw20 := St.del (.tail (.tail (.tail (.tail .head)))) hw19
    try clear hw19
    have hw21 := St.del (.tail (.tail (.tail .head))) hw20
    try clear hw20
    have hw22 := St.del (.tail (.tail .head)) hw21
    try clear hw21
    refine ⟨_, _, _, _, rfl, hcx, ?_, hw22.grows⟩
    rw [show (0 - exp).toNat = 0 by omega, Int.pow_zero, Int.mul_one]
    exact hcy
  · skip
    refine c_skip ?_
    refine e_then ?_
    refine c_keep [2, 6, 7] (.cons rfl (.cons rfl (.cons rfl .nil))) ?_
    refine c_seq ?_
    have hw23 := hw8.drewn
    try clear hw8
    refine c_any (n := 10) [false, false, false, false, false, false, false, false, false, false] (fun wS => (As.blk b0_0 34 [.bool neg, .int .u64 man, .int .i64 exp]).ok wS) (by kernel_rfl) rfl rfl ?_
    apply a_take (L' := [true, false, false, false, false, false, false, false, false, false]) 0 rfl (by kernel_rfl) (by kernel_rfl) (by kernel_rfl) rfl rfl rfl rfl rfl (hw23.ok mem7)
    · intro wS sS
      refine l_move rfl rfl rfl ?_
      refine l_nil ?_
      exact e_got rfl
    apply a_take (L' := [true, false, true, false, false, false, false, false, false, false]) 2 rfl (by kernel_rfl) (by kernel_rfl) (by kernel_rfl) rfl rfl rfl rfl rfl (hw23.ok mem7)
    · intro wS sS
      refine l_move rfl rfl rfl ?_
      refine l_nil ?_
      exact e_got rfl
    apply a_take (L' := [true, false, true, true, false, false, false, false, false, false]) 3 rfl (by kernel_rfl) (by kernel_rfl) (by kernel_rfl) rfl rfl rfl rfl rfl (hw23.ok mem7)
    · intro wS sS
      refine l_field fo34_2 rfl rfl rfl ?_
      refine l_nil ?_
      exact e_got rfl
    apply a_take (L' := [true, false, true, true, true, false, false, false, false, false]) 4 rfl (by kernel_rfl) (by kernel_rfl) (by kernel_rfl) rfl rfl rfl rfl rfl (hw23.ok mem7)
    · intro wS sS
      refine l_load_blk (blk_st sS) mem0 rfl rfl Try.underlying3 rfl rfl rfl ?_
      refine l_nil ?_
      exact e_got rfl
    apply a_take (L' := [true, false, true, true, true, true, false, false, false, false]) 5 rfl (by kernel_rfl) (by kernel_rfl) (by kernel_rfl) rfl rfl rfl rfl rfl (hw23.ok mem7)
    · intro wS sS
      refine l_neg rfl rfl rfl (w_i64 (by omega)) ?_
      refine l_nil ?_
      exact e_got rfl
    refine a_one (L' := [true, true, true, true, true, true, false, false, false, false]) 1 (by kernel_rfl) rfl rfl ?_
    refine l_call rfl rfl Try.func21 rfl rfl (.cons rfl .nil) (wordsR vx lx _ hRx (by omega) w8.drew (hw23.io mem2)) ?_
    rintro wx w24 ⟨_, lwx, rfl, hcx, hG⟩
    have hw24 := hG _ _ _ _ hw23
    try clear hG hw23
    simp only [List.cons_append, List.nil_append] at hw24
    refine l_nil ?_
    refine e_any (hw24.ok mem8) ?_
    refine a_one (L' := [true, true, true, true, true, true, true, false, false, false]) 6 (by kernel_rfl) rfl rfl ?_
    refine l_turn (s := 34) (v' := .int .i64 (((0 - exp).toNat : Nat) : Int)) rfl (by rw [Int.toNat_of_nonneg (by omega)]) ?_
    refine l_call rfl rfl Try.func46 rfl rfl (.cons rfl (.cons rfl .nil)) (leftR vy ly _ hRy2 (by omega) (0 - exp).toNat (by omega) w24 (hw24.io mem1)) ?_
    rintro vz w25 ⟨_, lz, rfl, hRz, hG⟩
    have hw25 := hG _ _ _ _ hw24
    try clear hG hw24
    simp only [List.cons_append, List.nil_append] at hw25
    have hlz := hRy2.len_left hRz
    refine l_nil ?_
    refine e_any (hw25.ok mem9) ?_
    refine a_one (L' := [true, true, true, true, true, true, true, true, false, false]) 7 (by kernel_rfl) rfl rfl ?_
    refine l_call rfl rfl Try.func21 rfl rfl (.cons rfl .nil) (wordsR vz lz _ hRz (by omega) w25 (hw25.io mem0)) ?_
    rintro wy w26 ⟨_, lwy, rfl, hcy, hG⟩
    have hw26 := hG _ _ _ _ hw25
    try clear hG hw25
    simp only [List.cons_append, List.nil_append] at hw26
    refine l_nil ?_
    refine e_any (hw26.ok mem10) ?_
    apply a_take (L' := [true, true, true, true, true, true, true, true, true, false]) 8 rfl (by kernel_rfl) (by kernel_rfl) (by kernel_rfl) rfl rfl rfl rfl rfl (hw26.ok mem10)
    · intro wS sS
      refine l_assign rfl rfl rfl ?_
      refine l_nil ?_
      exact e_got rfl
    apply a_take (L' := [true, true, true, true, true, true, true, true, true, true]) 9 rfl (by kernel_rfl) (by kernel_rfl) (by kernel_rfl) rfl rfl rfl rfl rfl (hw26.ok mem10)
    · intro wS sS
      refine l_assign rfl rfl rfl ?_
      refine l_nil ?_
      exact e_got rfl
    refine a_done (by kernel_rfl) ?_
    refine e_then ?_
    refine c_keep [4, 5] (.cons rfl (.cons rfl .nil)) ?_
    refine c_ret ?_
    refine e_done2 Try.results20 rfl rfl ?_
    refine ⟨_, rfl, ?_⟩
    have hw27 := St.front2 hw26
    try clear hw26
    have hw28 := St.front1 hw27
    try clear hw27
    have hw29 := St.del (.tail (.tail (.tail (.tail (.tail (.tail (.tail (.tail (.tail (.tail .head)))))))))) hw28
    try clear hw28
    have hw30 := St.del (.tail (.tail (.tail (.tail (.tail (.tail (.tail (.tail (.tail .head))))))))) hw29
    try clear hw29
    have hw31 := St.del (.tail (.tail (.tail (.tail (.tail (.tail (.tail (.tail .head)))))))) hw30
    try clear hw30
    have hw32 := St.del (.tail (.tail (.tail (.tail (.tail (.tail (.tail .head))))))) hw31
    try clear hw31
    have hw33 := St.del (.tail (.tail (.tail (.tail (.tail (.tail .head)))))) hw32
    try clear hw32
    have hw34 := St.del (.tail (.tail (.tail (.tail (.tail .head))))) hw33
    try clear hw33
    have hw35 := St.del (.tail (.tail (.tail (.tail .head)))) hw34
    try clear hw34
    have hw36 := St.del (.tail (.tail (.tail .head))) hw35
    try clear hw35
    have hw37 := St.del (.tail (.tail .head)) hw36
    try clear hw36
    refine ⟨_, _, _, _, rfl, ?_, hcy, hw37.grows⟩
    rw [show exp.toNat = 0 by omega, Int.pow_zero, Int.mul_one]
    exact hcx
theorem shifted3 (exp : Int) (he : -2000 ≤ exp ∧ exp ≤ 2000) (w : World) :
    CallsV P 26 [.int .i64 exp] w fun r w' => ∃ v ls, r = v ∧ R16 ls (2 ^ exp.toNat) ∧ ls.length ≤ 200 ∧ Grow w w' [As.ri 3 .i64 v ls] := by
  refine enterW Try.func26 rfl Try.ntmps26 rfl ?_
  have hw0 := St.start w
  refine c_seq ?_
  refine c_region ?_
  refine l_assign rfl rfl rfl ?_
  refine l_nil ?_
  refine e_then ?_
  refine c_keep [0] (.cons rfl .nil) ?_
  refine c_seq ?_
  refine c_seq ?_
  refine c_region ?_
  refine l_move rfl rfl rfl ?_
  refine l_geq rfl rfl rfl rfl ?_
  refine l_nil ?_
  refine e_then ?_
  refine c_keep [0, 4] (.cons rfl (.cons rfl .nil)) ?_
  first | refine c_cond rfl (fun hc0 => ?_) (fun hc0 => ?_) | refine c_condb rfl (fun hc0 => ?_) (fun hc0 => ?_)
  · skip
    refine c_seq ?_
    refine c_region ?_
    refine v_lit hw0 rfl rfl Try.underlying46 ti3 rfl (.cons rfl (by first | rfl | assumption) .nil) rfl rfl rfl (fun b2_0 w1 hw1 => ?_)
    try clear hw0
    refine l_move rfl rfl rfl ?_
    refine l_turn (s := 6) (v' := .int .i64 ((exp.toNat : Nat) : Int)) rfl (by rw [Int.toNat_of_nonneg (by omega)]) ?_
    refine l_call rfl rfl Try.func46 rfl rfl (.cons rfl (.cons rfl .nil)) (leftR _ [1] 1 R16.one1 (by simp) exp.toNat (by omega) w1 (hw1.ibl mem0)) ?_
    rintro vz w2 ⟨_, lz, rfl, hRz, hG⟩
    have hw2 := hG _ _ _ _ hw1
    try clear hG hw1
    simp only [List.cons_append, List.nil_append] at hw2
    refine l_assign rfl rfl rfl ?_
    refine l_nil ?_
    refine e_then ?_
    refine c_keep [2] (.cons rfl .nil) ?_
    refine c_ret ?_
    refine e_then_ret ?_
    refine e_done1 Try.results26 rfl ?_
    refine ⟨_, rfl, ?_⟩
    have hw3 := St.del (.tail .head) hw2
    try clear hw2
    have hlz := R16.one1.len_left hRz
    simp only [List.length_cons, List.length_nil] at hlz
    rw [Int.one_mul] at hRz
    exact ⟨_, _, rfl, hRz, by omega, hw3.grows⟩
  · skip
    refine c_skip ?_
    refine e_then ?_
    refine c_keep [] .nil ?_
    refine c_seq ?_
    refine c_region ?_
    refine v_lit hw0 rfl rfl Try.underlying46 ti3 rfl (.cons rfl (by first | rfl | assumption) .nil) rfl rfl rfl (fun b3_0 w4 hw4 => ?_)
    try clear hw0
    refine l_assign rfl rfl rfl ?_
    refine l_nil ?_
    refine e_then ?_
    refine c_keep [2] (.cons rfl .nil) ?_
    refine c_ret ?_
    refine e_done1 Try.results26 rfl ?_
    refine ⟨_, rfl, ?_⟩
    exact ⟨_, [1], rfl, by rw [show exp.toNat = 0 by omega, Int.pow_zero]; exact R16.one1, by simp, (hw4.blk_own (by decide)).grows⟩

theorem spl_any {k a : Int} {d : Kd} (hk : kd k = some d) (ha : 0 ≤ a ∧ a < 2 * d.S) (hf : a % d.S < d.I) : splF k a = (decide (d.S ≤ a), splM d (a % d.S), splE d (a % d.S), 0) := by
  have hbd := d.bd
  have hm := mod_S d ha
  have he : a % d.S % d.S = a % d.S := Int.emod_eq_of_lt (by omega) (by omega)
  unfold splF
  rw [ofk_ok hk (chk_some hk ha.2), if_neg (by omega)]
  unfold splM splE
  rw [he]
theorem sg_back {d : Kd} {a : Int} (ha : 0 ≤ a ∧ a < 2 * d.S) (ex : Bool) : sgR d (decide (d.S ≤ a)) (a % d.S, ex, 0) = (a, ex, 0) := by
  rw [sgR_ok rfl]
  have hm := mod_S d ha
  by_cases h : d.S ≤ a
  · rw [decide_eq_true h, if_pos rfl]
    simp only
    rw [show a % d.S + d.S = a by omega]
  · rw [decide_eq_false h, if_neg (by decide)]
    simp only
    rw [show a % d.S = a by omega]
/-- Join of Split is the float, exact -/
theorem join_back {k a : Int} {d : Kd} (hk : kd k = some d) (ha : 0 ≤ a ∧ a < 2 * d.S) (hf : a % d.S < d.I) : JoinR k (decide (d.S ≤ a)) (splM d (a % d.S)) (splE d (a % d.S)) (a, true, 0) := by
  have hbd := d.bd
  have hm := mod_S d ha
  have hb : 0 ≤ a % d.S ∧ a % d.S < d.I := by omega
  have hfs := fv_spl d hb
  rw [← sg_back ha true]
  refine JoinR.is hk ?_
  rw [show max (min (splE d (a % d.S)) 2000) (-2000) = splE d (a % d.S) by omega]
  refine near_exact (p2 _) ⟨hb.1, by omega⟩ ?_
  rw [hfs.2.2.2.2.1, Int.mul_assoc, ← Int.pow_add, Int.mul_assoc, ← Int.pow_add]
  congr 2
  omega
theorem cls_fin {d : Kd} {a : Int} (h : 0 ≤ a % d.S) : (cls d a = 4 ∨ cls d a = 5) ↔ d.I ≤ a % d.S := by
  have := d.bd
  unfold cls
  (repeat' split) <;> omega

end Go.Proofs.Ytidbonodfmicgaa.W
