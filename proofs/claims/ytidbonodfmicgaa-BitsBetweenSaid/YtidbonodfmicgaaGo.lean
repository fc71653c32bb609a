/- the middle between a float and the next one -/
import Derived.Test.YtidbonodfmicgaaGn
set_option linter.unusedVariables false
set_option linter.unusedSimpArgs false
set_option maxRecDepth 10000
namespace Go.Proofs.Ytidbonodfmicgaa.W
open Go.Vc Go.RowKit

theorem between_facts (d : Kd) {a m : Int} (ha : 0 ≤ a ∧ a + 1 < d.I) (hm : 1 ≤ m) {x y : Int} (hx : x = (2 * splM d a + 1) * m * 2 ^ (splE d a - 1).toNat) (hy : y = m * 2 ^ (0 - (splE d a - 1)).toNat) :
    0 < y ∧ 0 < x ∧ RndR d.H (d.I - 1) (x * 2 ^ d.l) y (if a % 2 = 1 then a + 1 else a, false, 0) ∧ (∃ ex, RndR d.H (d.I - 1) ((x + 1) * 2 ^ d.l) y (a + 1, ex, 0)) ∧ (∃ ex, RndR d.H (d.I - 1) ((x - 1) * 2 ^ d.l) y (a, ex, 0)) := by
  have hp : ∀ k : Nat, (0 : Int) < 2 ^ k := fun k => Ma.pow_pos (by omega) k
  have hbd := d.bd
  have hfs := fv_spl d (b := a) ⟨ha.1, by omega⟩
  have hy0 : 0 < y := by rw [hy]; exact Int.mul_pos (by omega) (hp _)
  have hx0 : 0 < x := by rw [hx]; exact Int.mul_pos (Int.mul_pos (by omega) (by omega)) (hp _)
  have hpow : (2 : Int) ^ (splE d a + d.l).toNat * 2 ^ (0 - (splE d a - 1)).toNat = 2 * (2 ^ (splE d a - 1).toNat * 2 ^ d.l) := by
    rw [← Int.pow_add, ← Int.pow_add, Int.mul_comm 2, ← Int.pow_succ]
    congr 1
    omega
  have hq1 : (1 : Int) * 2 ^ d.l ≤ 2 ^ (splE d a - 1).toNat * 2 ^ d.l := Int.mul_le_mul_of_nonneg_right (by have := hp (splE d a - 1).toNat; omega) (Int.le_of_lt (hp _))
  have hmul : ∀ c : Int, c * 2 ^ (splE d a + d.l).toNat * y = 2 * (c * (m * (2 ^ (splE d a - 1).toNat * 2 ^ d.l))) := fun c => by
    rw [hy, Int.mul_assoc, Int.mul_left_comm _ m, hpow, Int.mul_left_comm m 2, Int.mul_left_comm c 2]
  have hxl : x * 2 ^ d.l = (2 * splM d a + 1) * (m * (2 ^ (splE d a - 1).toNat * 2 ^ d.l)) := by
    rw [hx, Int.mul_assoc, Int.mul_assoc]
  have e1 : fv d.H a * y = 2 * (splM d a * (m * (2 ^ (splE d a - 1).toNat * 2 ^ d.l))) := by rw [hfs.2.2.2.2.1, hmul]
  have e2 : fv d.H (a + 1) * y = 2 * ((splM d a + 1) * (m * (2 ^ (splE d a - 1).toNat * 2 ^ d.l))) := by rw [hfs.2.2.2.2.2, hmul]
  have hp1 : (1 + x) * 2 ^ d.l = 1 * 2 ^ d.l + x * 2 ^ d.l := Int.add_mul ..
  have hp2 : (x - 1) * 2 ^ d.l = x * 2 ^ d.l - 1 * 2 ^ d.l := Int.sub_mul ..
  rw [Int.add_comm 1 x] at hp1
  rw [hp1, hp2]
  have hq0 : (0 : Int) < 1 * 2 ^ d.l := by have := hp d.l; omega
  generalize (1 : Int) * 2 ^ d.l = p at *
  generalize (2 : Int) ^ (splE d a - 1).toNat * 2 ^ d.l = q at *
  have hmq : 1 * q ≤ m * q := Int.mul_le_mul_of_nonneg_right hm (by omega)
  generalize m * q = z at *
  rw [Int.add_mul, Int.mul_assoc, Int.one_mul] at hxl
  rw [Int.add_mul, Int.one_mul] at e2
  generalize splM d a * z = t at *
  generalize x * 2 ^ d.l = N at *
  have hs : (fv d.H a + fv d.H (a + 1)) * y = fv d.H a * y + fv d.H (a + 1) * y := Int.add_mul ..
  have hup : ∀ N' : Int, upR d.H N' y a ↔ (fv d.H a * y + fv d.H (a + 1) * y < 2 * N' ∨ fv d.H a * y + fv d.H (a + 1) * y = 2 * N' ∧ a % 2 = 1) := fun N' => by unfold upR; rw [hs]
  refine ⟨hy0, hx0, ?_, ?_, ?_⟩
  · by_cases ho : a % 2 = 1
    · rw [if_pos ho]
      have := near_up hy0 (d := d) (N := N) (b := a) ⟨ha.1, by omega⟩ (by omega) (.inr (by omega)) ((hup N).2 (.inr ⟨by omega, ho⟩))
      rw [if_neg (by omega)] at this
      exact this
    · rw [if_neg ho]
      exact near_down hy0 ⟨ha.1, by omega⟩ (by omega) (.inr (by omega)) (by omega) (fun h => by have := (hup N).1 h; omega)
  · by_cases he : fv d.H (a + 1) * y = p + N
    · exact ⟨true, near_exact hy0 ⟨by omega, by omega⟩ he⟩
    · have := near_up hy0 (d := d) (N := p + N) (b := a) ⟨ha.1, by omega⟩ (by omega) (.inr (by omega)) ((hup _).2 (.inl (by omega)))
      rw [if_neg (by omega)] at this
      exact ⟨false, this⟩
  · by_cases he : fv d.H a * y = N - p
    · exact ⟨true, near_exact hy0 ⟨ha.1, by omega⟩ he⟩
    · exact ⟨false, near_down hy0 ⟨ha.1, by omega⟩ (by omega) (.inr (by omega)) he (fun h => by have := (hup _).1 h; omega)⟩


/-- whole number and exponent of a float and of the next one -/
theorem nxt_spl (d : Kd) {a : Int} (ha : 0 ≤ a ∧ a + 1 < d.I) : splE d a ≤ splE d (a + 1) ∧ splE d (a + 1) ≤ splE d a + 1 ∧ (splE d a < splE d (a + 1) → 2 * splM d (a + 1) = splM d a + 1) ∧ (¬ splE d a < splE d (a + 1) → splM d (a + 1) = splM d a + 1) := by
  have hbd := d.bd
  have m1 : a % d.S = a := Int.emod_eq_of_lt ha.1 (by omega)
  have m2 : (a + 1) % d.S = a + 1 := Int.emod_eq_of_lt (by omega) (by omega)
  unfold splE splM
  rw [m1, m2]
  cases d
  · have h2 : a + 1 < 2139095040 := ha.2
    show (if a < 8388608 then -(149 : Int) else -149 + (a / 8388608 - 1)) ≤ (if a + 1 < 8388608 then -(149 : Int) else -149 + ((a + 1) / 8388608 - 1)) ∧ (if a + 1 < 8388608 then -(149 : Int) else -149 + ((a + 1) / 8388608 - 1)) ≤ (if a < 8388608 then -(149 : Int) else -149 + (a / 8388608 - 1)) + 1 ∧
      ((if a < 8388608 then -(149 : Int) else -149 + (a / 8388608 - 1)) < (if a + 1 < 8388608 then -(149 : Int) else -149 + ((a + 1) / 8388608 - 1)) → 2 * (if a + 1 < 8388608 then a + 1 else (a + 1) % 8388608 + 8388608) = (if a < 8388608 then a else a % 8388608 + 8388608) + 1) ∧
      (¬ (if a < 8388608 then -(149 : Int) else -149 + (a / 8388608 - 1)) < (if a + 1 < 8388608 then -(149 : Int) else -149 + ((a + 1) / 8388608 - 1)) → (if a + 1 < 8388608 then a + 1 else (a + 1) % 8388608 + 8388608) = (if a < 8388608 then a else a % 8388608 + 8388608) + 1)
    omega
  · have h2 : a + 1 < 9218868437227405312 := ha.2
    show (if a < 4503599627370496 then -(1074 : Int) else -1074 + (a / 4503599627370496 - 1)) ≤ (if a + 1 < 4503599627370496 then -(1074 : Int) else -1074 + ((a + 1) / 4503599627370496 - 1)) ∧ (if a + 1 < 4503599627370496 then -(1074 : Int) else -1074 + ((a + 1) / 4503599627370496 - 1)) ≤ (if a < 4503599627370496 then -(1074 : Int) else -1074 + (a / 4503599627370496 - 1)) + 1 ∧
      ((if a < 4503599627370496 then -(1074 : Int) else -1074 + (a / 4503599627370496 - 1)) < (if a + 1 < 4503599627370496 then -(1074 : Int) else -1074 + ((a + 1) / 4503599627370496 - 1)) → 2 * (if a + 1 < 4503599627370496 then a + 1 else (a + 1) % 4503599627370496 + 4503599627370496) = (if a < 4503599627370496 then a else a % 4503599627370496 + 4503599627370496) + 1) ∧
      (¬ (if a < 4503599627370496 then -(1074 : Int) else -1074 + (a / 4503599627370496 - 1)) < (if a + 1 < 4503599627370496 then -(1074 : Int) else -1074 + ((a + 1) / 4503599627370496 - 1)) → (if a + 1 < 4503599627370496 then a + 1 else (a + 1) % 4503599627370496 + 4503599627370496) = (if a < 4503599627370496 then a else a % 4503599627370496 + 4503599627370496) + 1)
    omega
theorem nx_err {d : Kd} {a : Int} : (nx d a).2 = 0 ∨ (nx d a).2 = 32 ∨ (nx d a).2 = 34 := by
  unfold nx
  (repeat' split) <;> simp
/-- what follows where Next says all is well and the float is not below zero -/
theorem nx_up {d : Kd} {a : Int} (ha : 0 ≤ a ∧ a < d.S) (h : (nx d a).2 = 0) : (nx d a).1 = a + 1 ∧ a + 1 < d.I := by
  have hbd := d.bd
  have m1 : a % d.S = a := Int.emod_eq_of_lt ha.1 ha.2
  have hH := hbd.1
  by_cases c1 : d.I ≤ a % d.S
  · unfold nx at h; rw [if_pos c1] at h; cases h
  · by_cases c2 : a % d.S = 0
    · have : a = 0 := by omega
      subst this
      unfold nx; rw [if_neg c1, if_pos c2]
      exact ⟨rfl, by cases d <;> decide⟩
    · by_cases c4 : a + 1 = d.I
      · unfold nx at h; rw [if_neg c1, if_neg c2, if_neg (by omega), if_pos c4] at h; cases h
      · unfold nx; rw [if_neg c1, if_neg c2, if_neg (by omega), if_neg c4]
        exact ⟨rfl, by omega⟩


theorem splitP (k b : Int) (hb : 0 ≤ b ∧ b ≤ 18446744073709551615) (w : World) : CallsV P 19 [.int .i64 k, .int .u64 b] w fun r w' => ∃ neg man exp e, r = .tuple #[.agg #[.bool (decide (neg = true)), .int .u64 man, .int .i64 exp], .int .i64 e] ∧ splF k b = (neg, man, exp, e) ∧ Grow w w' [] := by
  refine (splitB k b hb w).mono ?_
  rintro r w' ⟨rfl, hG⟩
  refine ⟨(splF k b).1, (splF k b).2.1, (splF k b).2.2.1, (splF k b).2.2.2, ?_, rfl, hG⟩
  rw [Bool.decide_eq_true]
theorem sg_pos {d : Kd} {b : Int} {ex : Bool} : sgR d false (b, ex, 0) = (b, ex, 0) := rfl
theorem frac_small5 {man m : Int} {e : Nat} (hm : 0 ≤ man ∧ man ≤ 36028797018963968) (hmm : 0 ≤ m ∧ m ≤ 18446744073709551615) (he : e ≤ 1200) : 0 ≤ man * m * 2 ^ e ∧ man * m * 2 ^ e + 2 ^ e < 2 ^ 2000 := by
  have hp := p2 e
  have h0 := Int.mul_nonneg hm.1 hmm.1
  have h1 : man * m ≤ 36028797018963968 * 18446744073709551615 := Int.mul_le_mul hm.2 hmm.2 hmm.1 (by omega)
  have h2 : (man * m + 1) * 2 ^ e ≤ 2 ^ 120 * 2 ^ e := Int.mul_le_mul_of_nonneg_right (by rw [show (2 : Int) ^ 120 = 1329227995784915872903807060280344576 by rfl]; omega) (Int.le_of_lt hp)
  rw [← Int.pow_add, Int.add_mul, Int.one_mul] at h2
  have h3 := Ma.pow_mono (show (1 : Int) ≤ 2 by omega) (show 120 + e ≤ 1999 by omega)
  have h4 : (2 : Int) ^ 2000 = 2 ^ 1999 * 2 := Int.pow_succ ..
  have h5 := p2 1999
  have := Int.mul_nonneg h0 (Int.le_of_lt hp)
  omega

theorem bitsBetweenL (n a m : Int) (hn : -9223372036854775808 ≤ n ∧ n ≤ 9223372036854775807) (ha : 0 ≤ a ∧ a ≤ 18446744073709551615) (hm : 0 ≤ m ∧ m ≤ 18446744073709551615) (w : World) :
    CallsV P 5 [.int .i64 n, .int .u64 a, .int .u64 m] w fun r w' => r = .bool true ∧ Grow w w' [] := by
  refine enterW Try.func5 rfl Try.ntmps5 rfl ?_
  have hw0 := St.start w
  obtain ⟨d, hk⟩ := kd_fit n
  have hbd := d.bd
  have hfa := fit_bd hk ha
  refine c_seq ?_
  refine c_region ?_
  refine l_assign rfl rfl rfl ?_
  refine l_nil ?_
  refine e_then ?_
  refine c_keep [0, 1, 2] (.cons rfl (.cons rfl (.cons rfl .nil))) ?_
  refine c_seq ?_
  refine c_region ?_
  refine l_move rfl rfl rfl ?_
  refine l_bits rfl rfl rfl rfl rfl (and_i1 hn) ?_
  refine l_add rfl rfl rfl rfl (w_i64 (by omega)) ?_
  refine l_assign rfl rfl rfl ?_
  refine l_nil ?_
  refine e_then ?_
  refine c_keep [1, 2, 7] (.cons rfl (.cons rfl (.cons rfl .nil))) ?_
  refine c_seq ?_
  refine c_region ?_
  refine l_move rfl rfl rfl ?_
  refine l_move rfl rfl rfl ?_
  refine l_callp rfl rfl Try.func17 rfl rfl (.cons rfl (.cons rfl .nil)) (fit3 (9 + n % 2) a ha w) ?_
  refine l_assign rfl rfl rfl ?_
  refine l_nil ?_
  refine e_then ?_
  refine c_keep [1, 2, 7] (.cons rfl (.cons rfl (.cons rfl .nil))) ?_
  refine c_seq ?_
  refine c_region ?_
  obtain ⟨a2, hae⟩ : ∃ x, x = (if 9 + n % 2 = 9 then a % 4294967296 else a) := ⟨_, rfl⟩
  refine l_turn (s := 1) (v' := .int .u64 a2) rfl (by rw [hae]) ?_
  rw [← hae] at hfa
  have ha2 := hfa
  have hma := mod_S d ha2
  have hnk : nxF (9 + n % 2) a2 = nx d a2 := ofk_ok hk (chk_some hk ha2.2)
  have hne := nx_err (d := d) (a := a2)
  rw [← hnk] at hne
  refine l_move rfl rfl rfl ?_
  refine l_move rfl rfl rfl ?_
  refine l_call rfl rfl Try.func18 rfl rfl (.cons rfl (.cons rfl .nil)) (nextB (9 + n % 2) a2 (by omega) w) ?_
  rintro _ w1 ⟨rfl, hG⟩
  have hw1 := hG _ _ _ _ hw0
  try clear hG hw0
  simp only [List.cons_append, List.nil_append] at hw1
  refine l_move rfl rfl rfl ?_
  refine l_extract rfl rfl rfl rfl ?_
  refine l_extract rfl rfl rfl rfl ?_
  refine l_assign rfl rfl rfl ?_
  refine l_assign rfl rfl rfl ?_
  refine l_nil ?_
  refine e_then ?_
  refine c_keep [1, 2, 7, 8, 9] (.cons rfl (.cons rfl (.cons rfl (.cons rfl (.cons rfl .nil))))) ?_
  refine c_seq ?_
  refine c_region ?_
  refine l_move rfl rfl rfl ?_
  refine l_move rfl rfl rfl ?_
  refine l_call rfl rfl Try.func19 rfl rfl (.cons rfl (.cons rfl .nil)) (splitP (9 + n % 2) a2 (by omega) w1) ?_
  rintro _ w2 ⟨neg, man, exp, e, rfl, hq, hG⟩
  have hw2 := hG _ _ _ _ hw1
  try clear hG hw1
  simp only [List.cons_append, List.nil_append] at hw2
  refine l_move rfl rfl rfl ?_
  refine l_extract rfl rfl rfl rfl ?_
  refine l_extract rfl rfl rfl rfl ?_
  refine l_alloc hw2 ta34 rfl rfl (fun b4_6 w3 hw3 => ?_)
  try clear hw2
  refine l_store_blks hw3 .head (.zero (.zero (.zero .nil))) rfl tz34 rfl rfl (by first | (simp [Value.oneCell']; done) | (intro u hu; simp only [List.mem_cons, List.not_mem_nil, or_false] at hu; rcases hu with rfl | rfl | rfl <;> first | rfl | assumption)) (fun w4 hw4 => ?_)
  try clear hw3
  refine l_assign rfl rfl rfl ?_
  refine l_nil ?_
  refine e_then ?_
  refine c_keep [1, 2, 7, 8, 9, 10, 11] (.cons rfl (.cons rfl (.cons rfl (.cons rfl (.cons rfl (.cons rfl (.cons rfl .nil))))))) ?_
  refine c_seq ?_
  refine c_seq ?_
  refine c_region ?_
  refine l_move rfl rfl rfl ?_
  refine l_callp rfl rfl Try.func13 rfl rfl (.cons rfl .nil) (num3 _ _) ?_
  refine l_neq rfl rfl rfl rfl ?_
  refine l_move rfl rfl rfl ?_
  apply l_or 3 [1, 2, 7, 8, 9, 10] rfl rfl (.cons rfl (.cons rfl (.cons rfl (.cons rfl (.cons rfl (.cons rfl (.cons rfl .nil))))))) rfl rfl (fun _ => rfl) rfl rfl rfl
  · intro hg5_4
    refine l_move rfl rfl rfl ?_
    refine l_callp rfl rfl Try.func13 rfl rfl (.cons rfl .nil) (num3 _ _) ?_
    refine l_neq rfl rfl rfl rfl ?_
    refine l_nil ?_
    exact e_stays rfl (.cons rfl (congrArg Value.bool (decide_eq_false hg5_4).symm) (.cons rfl rfl (.cons rfl rfl (.cons rfl rfl (.cons rfl rfl (.cons rfl rfl (.cons rfl rfl .nil)))))))
  refine l_move rfl rfl rfl ?_
  apply l_or 2 [1, 2, 7, 8, 9, 10] rfl rfl (.cons rfl (.cons rfl (.cons rfl (.cons rfl (.cons rfl (.cons rfl (.cons rfl .nil))))))) rfl rfl (fun _ => rfl) rfl rfl rfl
  · intro hg5_9
    refine l_field fo34_0 rfl rfl rfl ?_
    refine l_load_blk hw4 mem0 rfl rfl Try.underlying4 rfl rfl rfl ?_
    refine l_nil ?_
    exact e_stays rfl (.cons rfl (congrArg Value.bool (decide_eq_false hg5_9).symm) (.cons rfl rfl (.cons rfl rfl (.cons rfl rfl (.cons rfl rfl (.cons rfl rfl (.cons rfl rfl .nil)))))))
  refine l_nil ?_
  refine e_then ?_
  refine c_keep [1, 2, 7, 8, 9, 10, 56] (.cons rfl (.cons rfl (.cons rfl (.cons rfl (.cons rfl (.cons rfl (.cons rfl .nil))))))) ?_
  first | refine c_cond rfl (fun hc0 => ?_) (fun hc0 => ?_) | refine c_condb rfl (fun hc0 => ?_) (fun hc0 => ?_)
  · skip
    refine c_seq ?_
    refine c_region ?_
    refine l_move rfl rfl rfl ?_
    refine l_callp rfl rfl Try.func13 rfl rfl (.cons rfl .nil) (num3 _ _) ?_
    refine l_eql rfl rfl rfl rfl ?_
    refine l_move rfl rfl rfl ?_
    apply l_or 3 [9] rfl rfl (.cons rfl (.cons rfl .nil)) rfl rfl (fun _ => rfl) rfl rfl rfl
    · intro hg6_4
      refine l_move rfl rfl rfl ?_
      refine l_callp rfl rfl Try.func13 rfl rfl (.cons rfl .nil) (num3 _ _) ?_
      refine l_eql rfl rfl rfl rfl ?_
      refine l_nil ?_
      exact e_stays rfl (.cons rfl (congrArg Value.bool (decide_eq_false hg6_4).symm) (.cons rfl rfl .nil))
    refine l_move rfl rfl rfl ?_
    apply l_or 3 [] rfl rfl (.cons rfl .nil) rfl rfl (fun _ => rfl) rfl rfl rfl
    · intro hg6_9
      refine l_move rfl rfl rfl ?_
      refine l_callp rfl rfl Try.func13 rfl rfl (.cons rfl .nil) (num3 _ _) ?_
      refine l_eql rfl rfl rfl rfl ?_
      refine l_nil ?_
      exact e_stays rfl (.cons rfl (congrArg Value.bool (decide_eq_false hg6_9).symm) .nil)
    refine l_turn (s := 69) (v' := .bool true) rfl (by rw [decide_eq_true (by omega)]) ?_
    refine l_move rfl rfl rfl ?_
    refine l_call rfl rfl Try.func14 rfl rfl .nil (wakes3 w4) ?_
    rintro _ w5 ⟨rfl, hG⟩
    have hw5 := hG _ _ _ _ hw4
    try clear hG hw4
    simp only [List.cons_append, List.nil_append] at hw5
    refine l_turn (s := 71) (v' := .bool true) rfl (by rfl) ?_
    refine l_pick_t rfl rfl rfl rfl ?_
    refine l_assign rfl rfl rfl ?_
    refine l_nil ?_
    refine e_then ?_
    refine c_keep [6] (.cons rfl .nil) ?_
    refine c_ret ?_
    refine e_then_ret ?_
    refine e_done1 Try.results5 rfl ?_
    refine ⟨_, rfl, ?_⟩
    have hw6 := St.del .head hw5
    try clear hw5
    exact ⟨rfl, hw6.grows⟩
  · skip
    refine c_skip ?_
    refine e_then ?_
    refine c_keep [1, 2, 7, 8, 10] (.cons rfl (.cons rfl (.cons rfl (.cons rfl (.cons rfl .nil))))) ?_
    refine c_seq ?_
    refine c_region ?_
    have hnn : (nx d a2).2 = 0 := by rw [← hnk]; omega
    have hf : a2 % d.S < d.I := by
      rcases Int.lt_or_le (a2 % d.S) d.I with h | h
      · exact h
      · unfold nx at hnn; rw [if_pos h] at hnn; cases hnn
    rw [spl_any hk ha2 hf] at hq
    obtain ⟨hng, hmn', hex', _⟩ := tup4 hq
    have hpos : a2 < d.S := by
      rcases Int.lt_or_le a2 d.S with h | h
      · exact h
      · exact absurd (.inr (by rw [← hng, decide_eq_true h])) hc0
    have hms : a2 % d.S = a2 := Int.emod_eq_of_lt ha2.1 hpos
    rw [hms] at hmn' hex'
    have hmn := hmn'.symm
    have hex := hex'.symm
    have hup := nx_up ⟨ha2.1, hpos⟩ hnn
    have hfs := fv_spl d (b := a2) (by omega)
    have hfs2 := fv_spl d (b := a2 + 1) (by omega)
    have hns := nxt_spl d (a := a2) (by omega)
    refine l_turn (s := 8) (v' := .int .u64 (a2 + 1)) rfl (show Value.int .u64 (nxF (9 + n % 2) a2).1 = _ by rw [hnk, hup.1]) ?_
    refine l_move rfl rfl rfl ?_
    refine l_move rfl rfl rfl ?_
    refine l_call rfl rfl Try.func19 rfl rfl (.cons rfl (.cons rfl .nil)) (splitP (9 + n % 2) (a2 + 1) (by omega) w4) ?_
    rintro _ w7 ⟨neg2, man2, exp2, e2, rfl, hq2, hG⟩
    have hw7 := hG _ _ _ _ hw4
    try clear hG hw4
    simp only [List.cons_append, List.nil_append] at hw7
    have hms2 : (a2 + 1) % d.S = a2 + 1 := Int.emod_eq_of_lt (by omega) (by omega)
    rw [spl_any hk (a := a2 + 1) (by omega) (by omega), hms2] at hq2
    obtain ⟨_, hmn2', hex2', rfl⟩ := tup4 hq2
    rw [hmn2', hex2', ← hmn, ← hex] at hns
    rw [hmn2', hex2'] at hfs2
    rw [← hmn, ← hex] at hfs
    refine l_move rfl rfl rfl ?_
    refine l_extract rfl rfl rfl rfl ?_
    refine l_extract rfl rfl rfl rfl ?_
    refine l_alloc hw7 ta34 rfl rfl (fun b7_6 w8 hw8 => ?_)
    try clear hw7
    refine l_store_blks hw8 .head (.zero (.zero (.zero .nil))) rfl tz34 rfl rfl (by first | (simp [Value.oneCell']; done) | (intro u hu; simp only [List.mem_cons, List.not_mem_nil, or_false] at hu; rcases hu with rfl | rfl | rfl <;> first | rfl | assumption)) (fun w9 hw9 => ?_)
    try clear hw8
    refine l_assign rfl rfl rfl ?_
    refine l_nil ?_
    refine e_then ?_
    refine c_keep [1, 2, 7, 8, 10, 12, 13] (.cons rfl (.cons rfl (.cons rfl (.cons rfl (.cons rfl (.cons rfl (.cons rfl .nil))))))) ?_
    refine c_seq ?_
    refine c_seq ?_
    refine c_region ?_
    refine l_move rfl rfl rfl ?_
    refine l_callp rfl rfl Try.func13 rfl rfl (.cons rfl .nil) (num3 _ _) ?_
    refine l_neq rfl rfl rfl rfl ?_
    refine l_turn (s := 81) (v' := .bool false) rfl (by simp) ?_
    refine l_move rfl rfl rfl ?_
    refine l_field fo34_2 rfl rfl rfl ?_
    refine l_load_blk hw9 mem0 rfl rfl Try.underlying3 rfl rfl rfl ?_
    refine l_field fo34_2 rfl rfl rfl ?_
    refine l_load_blk hw9 mem1 rfl rfl Try.underlying3 rfl rfl rfl ?_
    refine l_lss rfl rfl rfl rfl ?_
    refine l_turn (s := 87) (v' := .bool false) rfl (by rw [decide_eq_false (by omega)]) ?_
    refine l_pick_f rfl rfl rfl rfl ?_
    refine l_move rfl rfl rfl ?_
    refine l_field fo34_2 rfl rfl rfl ?_
    refine l_load_blk hw9 mem0 rfl rfl Try.underlying3 rfl rfl rfl ?_
    refine l_field fo34_2 rfl rfl rfl ?_
    refine l_load_blk hw9 mem1 rfl rfl Try.underlying3 rfl rfl rfl ?_
    refine l_add rfl rfl rfl rfl (w_i64 (by omega)) ?_
    refine l_gtr rfl rfl rfl rfl ?_
    refine l_turn (s := 95) (v' := .bool false) rfl (by rw [decide_eq_false (by omega)]) ?_
    refine l_pick_f rfl rfl rfl rfl ?_
    refine l_nil ?_
    refine e_then ?_
    refine c_keep [1, 2, 7, 8, 10, 12, 96] (.cons rfl (.cons rfl (.cons rfl (.cons rfl (.cons rfl (.cons rfl (.cons rfl .nil))))))) ?_
    refine c_cond_f rfl rfl ?_
    refine c_skip ?_
    refine e_then ?_
    refine c_keep [1, 2, 7, 8, 10, 12] (.cons rfl (.cons rfl (.cons rfl (.cons rfl (.cons rfl (.cons rfl .nil)))))) ?_
    refine c_cutk (ι := Int) (fun (mz : Int) (w' : World) => St w w.heap.size None' ([As.blk b7_6 34 [.bool (decide (neg2 = true)), .int .u64 mz, .int .i64 exp2], As.blk b4_6 34 [.bool (decide (neg = true)), .int .u64 man, .int .i64 exp]]) w' ∧ mz = man + 1) (fun (mz : Int) => []) [1, 2, 7, 8, 10, 12] (.cons rfl (.cons rfl (.cons rfl (.cons rfl (.cons rfl (.cons rfl .nil)))))) ?_ ?_
    · skip
      refine c_seq ?_
      refine c_region ?_
      refine l_field fo34_2 rfl rfl rfl ?_
      refine l_load_blk hw9 mem0 rfl rfl Try.underlying3 rfl rfl rfl ?_
      refine l_field fo34_2 rfl rfl rfl ?_
      refine l_load_blk hw9 mem1 rfl rfl Try.underlying3 rfl rfl rfl ?_
      refine l_gtr rfl rfl rfl rfl ?_
      refine l_nil ?_
      refine e_then ?_
      refine c_keep [1, 2, 7, 8, 10, 12, 101] (.cons rfl (.cons rfl (.cons rfl (.cons rfl (.cons rfl (.cons rfl (.cons rfl .nil))))))) ?_
      first | refine c_cond rfl (fun hc2 => ?_) (fun hc2 => ?_) | refine c_condb rfl (fun hc2 => ?_) (fun hc2 => ?_)
      · skip
        refine c_region ?_
        refine l_field fo34_1 rfl rfl rfl ?_
        refine l_load_blk hw9 mem0 rfl rfl Try.underlying24 rfl rfl rfl ?_
        refine l_mul rfl rfl rfl rfl (w_u64 (by omega)) ?_
        refine l_field fo34_1 rfl rfl rfl ?_
        refine l_store_blk hw9 .head (by repeat (first | exact .zero | apply SetAt.succ)) rfl tz24 rfl rfl (by first | rfl | assumption) (fun w10 hw10 => ?_)
        try clear hw9
        refine l_nil ?_
        refine e_meetk (2 * man2) ?_ (.cons rfl (.cons rfl (.cons rfl (.cons rfl (.cons rfl (.cons rfl .nil)))))) ?_
        · exact ⟨hw10, by omega⟩
        · exact .nil
      · skip
        refine c_skip ?_
        refine e_meetk (man2) ?_ (.cons rfl (.cons rfl (.cons rfl (.cons rfl (.cons rfl (.cons rfl .nil)))))) ?_
        · exact ⟨hw9, by omega⟩
        · exact .nil
    rintro mz w11 ⟨hw11, hmz⟩
    refine c_seq ?_
    refine c_seq ?_
    refine c_region ?_
    refine l_field fo34_1 rfl rfl rfl ?_
    refine l_load_blk hw11 mem0 rfl rfl Try.underlying24 rfl rfl rfl ?_
    refine l_field fo34_1 rfl rfl rfl ?_
    refine l_load_blk hw11 mem1 rfl rfl Try.underlying24 rfl rfl rfl ?_
    refine l_add rfl rfl rfl rfl (w_u64 (by omega)) ?_
    refine l_neq rfl rfl rfl rfl ?_
    refine l_turn (s := 111) (v' := .bool false) rfl (by rw [decide_eq_false (by omega)]) ?_
    refine l_nil ?_
    refine e_then ?_
    refine c_keep [1, 2, 7, 8, 10, 111] (.cons rfl (.cons rfl (.cons rfl (.cons rfl (.cons rfl (.cons rfl .nil)))))) ?_
    refine c_cond_f rfl rfl ?_
    refine c_skip ?_
    refine e_then ?_
    refine c_keep [1, 2, 7, 8, 10] (.cons rfl (.cons rfl (.cons rfl (.cons rfl (.cons rfl .nil))))) ?_
    refine c_cutk (ι := Int) (fun (m2 : Int) (w' : World) => St w w.heap.size None' ([As.blk b7_6 34 [.bool (decide (neg2 = true)), .int .u64 mz, .int .i64 exp2], As.blk b4_6 34 [.bool (decide (neg = true)), .int .u64 man, .int .i64 exp]]) w' ∧ 1 ≤ m2 ∧ m2 ≤ 18446744073709551615) (fun (m2 : Int) => [(2, .int .u64 m2)]) [1, 7, 8, 10] (.cons rfl (.cons rfl (.cons rfl (.cons rfl .nil)))) ?_ ?_
    · skip
      refine c_seq ?_
      refine c_region ?_
      refine l_move rfl rfl rfl ?_
      refine l_eql rfl rfl rfl rfl ?_
      refine l_nil ?_
      refine e_then ?_
      refine c_keep [1, 2, 7, 8, 10, 113] (.cons rfl (.cons rfl (.cons rfl (.cons rfl (.cons rfl (.cons rfl .nil)))))) ?_
      first | refine c_cond rfl (fun hc4 => ?_) (fun hc4 => ?_) | refine c_condb rfl (fun hc4 => ?_) (fun hc4 => ?_)
      · skip
        refine c_region ?_
        refine l_assign rfl rfl rfl ?_
        refine l_nil ?_
        refine e_meetk (1) ?_ (.cons rfl (.cons rfl (.cons rfl (.cons rfl .nil)))) ?_
        · exact ⟨hw11, by omega⟩
        · exact (.cons rfl (by first | rfl | (refine congrArg (Value.int _) ?_; omega)) .nil)
      · skip
        refine c_skip ?_
        refine e_meetk (m) ?_ (.cons rfl (.cons rfl (.cons rfl (.cons rfl .nil)))) ?_
        · exact ⟨hw11, by omega⟩
        · exact (.cons rfl (by first | rfl | (refine congrArg (Value.int _) ?_; omega)) .nil)
    rintro m2 w12 ⟨hw12, hm2⟩
    show RunC P _ _ _ (_ :: _) _
    refine c_seq ?_
    refine c_region ?_
    refine l_field fo34_1 rfl rfl rfl ?_
    refine l_load_blk hw12 mem1 rfl rfl Try.underlying24 rfl rfl rfl ?_
    refine l_mul rfl rfl rfl rfl (w_u64 (by omega)) ?_
    refine l_add rfl rfl rfl rfl (w_u64 (by omega)) ?_
    refine l_field fo34_2 rfl rfl rfl ?_
    refine l_load_blk hw12 mem1 rfl rfl Try.underlying3 rfl rfl rfl ?_
    refine l_sub rfl rfl rfl rfl (w_i64 (by omega)) ?_
    refine l_buildS rfl rfl pl34 ta34 (.one rfl rfl (by first | rfl | assumption) (.succ .zero) (.one rfl rfl (by first | rfl | assumption) (.succ (.succ .zero)) .nil)) ?_
    refine l_move rfl rfl rfl ?_
    refine l_mul rfl rfl rfl rfl (w_u64m _) ?_
    refine l_rem rfl rfl rfl rfl (by omega) (r_pos (by omega)) ?_
    refine l_add rfl rfl rfl rfl (w_u64 (by omega)) ?_
    refine l_call rfl rfl Try.func20 rfl rfl (.cons rfl (.cons rfl .nil)) (fraction3 false (2 * man + 1) (exp - 1) (2 * m2 % 18446744073709551616 % 9223372036854775808 + 1) (by omega) (by omega) (by omega) w12) ?_
    rintro _ w13 ⟨vx, lx, vy, ly, rfl, hcx, hcy, hG⟩
    have hw13 := hG _ _ _ _ hw12
    try clear hG hw12
    simp only [List.cons_append, List.nil_append] at hw13
    obtain ⟨m3, hm3⟩ : ∃ z, z = (2 * m2 % 18446744073709551616 % 9223372036854775808 + 1) := ⟨_, rfl⟩
    rw [← hm3] at hcx hcy
    have hv_lx : nv lx = (2 * man + 1) * m3 * 2 ^ (exp - 1).toNat := hcx.val
    have hvy : nv ly = m3 * 2 ^ (0 - (exp - 1)).toNat := hcy.val
    have hbf := between_facts d (a := a2) (by omega) (m := m3) (by omega) (x := (2 * man + 1) * m3 * 2 ^ (exp - 1).toNat) (y := m3 * 2 ^ (0 - (exp - 1)).toNat) (by rw [hmn, hex]) (by rw [hex])
    have hsx := frac_small5 (man := 2 * man + 1) (m := m3) (e := (exp - 1).toNat) (by omega) (by omega) (by omega)
    have hsy := frac_small5 (man := 1) (m := m3) (e := (0 - (exp - 1)).toNat) (by omega) (by omega) (by omega)
    rw [Int.one_mul] at hsy
    have hpx := p2 (exp - 1).toNat
    have hpy := p2 (0 - (exp - 1)).toNat
    have hbx := small_blen (x := nv lx) (by omega) (by omega)
    have hby := small_blen (x := nv ly) (by omega) (by omega)
    have hlx := cn_len64 hcx (k := 2000) (by rw [← hv_lx]; exact hbx)
    have hly := cn_len64 hcy (k := 2000) (by rw [← hvy]; exact hby)
    refine l_move rfl rfl rfl ?_
    refine l_extract rfl rfl rfl rfl ?_
    refine l_extract rfl rfl rfl rfl ?_
    refine l_assign rfl rfl rfl ?_
    refine l_assign rfl rfl rfl ?_
    refine l_nil ?_
    refine e_then ?_
    refine c_keep [1, 7, 8, 14, 15] (.cons rfl (.cons rfl (.cons rfl (.cons rfl (.cons rfl .nil))))) ?_
    refine c_seq ?_
    refine c_region ?_
    refine l_move rfl rfl rfl ?_
    refine l_move rfl rfl rfl ?_
    refine l_move rfl rfl rfl ?_
    refine l_call rfl rfl Try.func11 rfl rfl (.cons rfl (.cons rfl (.cons rfl (.cons rfl .nil)))) (roundB (9 + n % 2) false vx vy lx ly (U.of_dg hcx.dg) (U.of_dg hcy.dg) (by omega) (by omega) w13 (hw13.io mem1) (hw13.io mem0)) ?_
    rintro _ w14 ⟨res, rfl, hJ, hG⟩
    have hw14 := hG _ _ _ _ hw13
    try clear hG hw13
    simp only [List.cons_append, List.nil_append] at hw14
    have his := RoundR.is (neg := false) hk (x := nv lx) (y := nv ly) (by omega) (by omega) (by rw [hv_lx, hvy]; exact hbf.2.2.1)
    rw [sg_pos] at his
    obtain rfl := hJ.unique (by omega) his
    refine l_move rfl rfl rfl ?_
    refine l_extract rfl rfl rfl rfl ?_
    refine l_extract rfl rfl rfl rfl ?_
    refine l_extract rfl rfl rfl rfl ?_
    refine l_assign rfl rfl rfl ?_
    refine l_assign rfl rfl rfl ?_
    refine l_assign rfl rfl rfl ?_
    refine l_nil ?_
    refine e_then ?_
    refine c_keep [1, 7, 8, 14, 15, 16, 17, 18] (.cons rfl (.cons rfl (.cons rfl (.cons rfl (.cons rfl (.cons rfl (.cons rfl (.cons rfl .nil)))))))) ?_
    refine c_seq ?_
    refine c_region ?_
    refine l_move rfl rfl rfl ?_
    refine l_assign rfl rfl rfl ?_
    refine l_nil ?_
    refine e_then ?_
    refine c_keep [1, 7, 8, 14, 15, 16, 17, 18, 19] (.cons rfl (.cons rfl (.cons rfl (.cons rfl (.cons rfl (.cons rfl (.cons rfl (.cons rfl (.cons rfl .nil))))))))) ?_
    refine c_seq ?_
    refine c_seq ?_
    refine c_region ?_
    refine l_move rfl rfl rfl ?_
    refine l_rem rfl rfl rfl rfl (by omega) (r_pos (by omega)) ?_
    refine l_eql rfl rfl rfl rfl ?_
    refine l_nil ?_
    refine e_then ?_
    refine c_keep [1, 7, 8, 14, 15, 16, 17, 18, 19, 141] (.cons rfl (.cons rfl (.cons rfl (.cons rfl (.cons rfl (.cons rfl (.cons rfl (.cons rfl (.cons rfl (.cons rfl .nil)))))))))) ?_
    first | refine c_cond rfl (fun hc5 => ?_) (fun hc5 => ?_) | refine c_condb rfl (fun hc5 => ?_) (fun hc5 => ?_)
    · skip
      refine c_region ?_
      refine l_move rfl rfl rfl ?_
      refine l_assign rfl rfl rfl ?_
      refine l_nil ?_
      refine e_then ?_
      refine c_keep [1, 7, 8, 14, 15, 16, 17, 18, 19] (.cons rfl (.cons rfl (.cons rfl (.cons rfl (.cons rfl (.cons rfl (.cons rfl (.cons rfl (.cons rfl .nil))))))))) ?_
      refine c_seq ?_
      refine c_seq ?_
      refine c_region ?_
      refine l_move rfl rfl rfl ?_
      refine l_callp rfl rfl Try.func13 rfl rfl (.cons rfl .nil) (num3 _ _) ?_
      refine l_neq rfl rfl rfl rfl ?_
      refine l_turn (s := 145) (v' := .bool false) rfl (by simp) ?_
      refine l_move rfl rfl rfl ?_
      refine l_move rfl rfl rfl ?_
      refine l_turn (s := 147) (v' := .bool false) rfl (by rfl) ?_
      refine l_pick_f rfl rfl rfl rfl ?_
      refine l_move rfl rfl rfl ?_
      refine l_move rfl rfl rfl ?_
      refine l_move rfl rfl rfl ?_
      refine l_neq rfl rfl rfl rfl ?_
      refine l_turn (s := 152) (v' := .bool false) rfl (by first | (rw [if_pos (by omega)]; simp) | (rw [if_neg (by omega)]; simp)) ?_
      refine l_pick_f rfl rfl rfl rfl ?_
      refine l_nil ?_
      refine e_then ?_
      refine c_keep [1, 7, 8, 14, 15, 153] (.cons rfl (.cons rfl (.cons rfl (.cons rfl (.cons rfl (.cons rfl .nil)))))) ?_
      refine c_cond_f rfl rfl ?_
      refine c_skip ?_
      refine e_then ?_
      refine c_keep [1, 7, 8, 14, 15] (.cons rfl (.cons rfl (.cons rfl (.cons rfl (.cons rfl .nil))))) ?_
      refine c_seq ?_
      refine c_region ?_
      refine l_move rfl rfl rfl ?_
      refine l_call rfl rfl Try.func23 rfl rfl (.cons rfl .nil) (numR vx lx (U.of_dg hcx.dg) (by omega) w14 (hw14.io mem1)) ?_
      rintro vn w15 ⟨_, ln, rfl, hRn, hG⟩
      have hw15 := hG _ _ _ _ hw14
      try clear hG hw14
      simp only [List.cons_append, List.nil_append] at hw15
      have hlnn := R16.len_num (U.of_dg hcx.dg) hRn
      refine v_lit hw15 rfl rfl Try.underlying46 ti3 rfl (.cons rfl (by first | rfl | assumption) .nil) rfl rfl rfl (fun b23_2 w16 hw16 => ?_)
      try clear hw15
      refine l_call rfl rfl Try.func22 rfl rfl (.cons rfl (.cons rfl .nil)) (sumR _ _ _ _ _ _ hRn R16.one1 (by omega) (by simp) w16 (hw16.io mem1) (hw16.ibl mem0)) ?_
      rintro vt w17 ⟨_, lt, rfl, hRt, hG⟩
      have hw17 := hG _ _ _ _ hw16
      try clear hG hw16
      simp only [List.cons_append, List.nil_append] at hw17
      refine l_call rfl rfl Try.func21 rfl rfl (.cons rfl .nil) (wordsR vt lt _ hRt (by have := hRt.len_lt (k := 2000) (by show nv lx + 1 < _; omega); omega) w17 (hw17.io mem0)) ?_
      rintro vu w18 ⟨_, lu, rfl, hcu, hG⟩
      have hw18 := hG _ _ _ _ hw17
      try clear hG hw17
      simp only [List.cons_append, List.nil_append] at hw18
      have hv_lu : nv lu = (2 * man + 1) * m3 * 2 ^ (exp - 1).toNat + 1 := by
        have h : nv lu = nv lx + 1 := hcu.val
        rw [h, hv_lx]
      have hbu := small_blen (x := nv lu) (by omega) (by omega)
      have hlu := cn_len64 hcu (k := 2000) (by have h : nv lu = nv lx + 1 := hcu.val; show Ma.blen (nv lx + 1) ≤ _; rw [← h]; exact hbu)
      refine l_assign rfl rfl rfl ?_
      refine l_nil ?_
      refine e_then ?_
      refine c_keep [1, 7, 8, 14, 15, 20] (.cons rfl (.cons rfl (.cons rfl (.cons rfl (.cons rfl (.cons rfl .nil)))))) ?_
      refine c_seq ?_
      refine c_region ?_
      refine l_move rfl rfl rfl ?_
      refine l_call rfl rfl Try.func23 rfl rfl (.cons rfl .nil) (numR vx lx (U.of_dg hcx.dg) (by omega) w18 (hw18.io mem5)) ?_
      rintro vo w19 ⟨_, lo, rfl, hRo, hG⟩
      have hw19 := hG _ _ _ _ hw18
      try clear hG hw18
      simp only [List.cons_append, List.nil_append] at hw19
      have hlno := R16.len_num (U.of_dg hcx.dg) hRo
      refine v_lit hw19 rfl rfl Try.underlying46 ti3 rfl (.cons rfl (by first | rfl | assumption) .nil) rfl rfl rfl (fun b24_2 w20 hw20 => ?_)
      try clear hw19
      refine l_call rfl rfl Try.func24 rfl rfl (.cons rfl (.cons rfl .nil)) (lessR _ _ _ _ _ _ hRo R16.one1 (by omega) (by simp) (by show 1 ≤ nv lx; omega) w20 (hw20.io mem1) (hw20.ibl mem0)) ?_
      rintro vs w21 ⟨_, ls, rfl, hRs, hG⟩
      have hw21 := hG _ _ _ _ hw20
      try clear hG hw20
      simp only [List.cons_append, List.nil_append] at hw21
      refine l_call rfl rfl Try.func21 rfl rfl (.cons rfl .nil) (wordsR vs ls _ hRs (by have := hRs.len_lt (k := 2000) (by show nv lx - 1 < _; omega); omega) w21 (hw21.io mem0)) ?_
      rintro vv w22 ⟨_, lv, rfl, hcv, hG⟩
      have hw22 := hG _ _ _ _ hw21
      try clear hG hw21
      simp only [List.cons_append, List.nil_append] at hw22
      have hv_lv : nv lv = (2 * man + 1) * m3 * 2 ^ (exp - 1).toNat - 1 := by
        have h : nv lv = nv lx - 1 := hcv.val
        rw [h, hv_lx]
      have hbv := small_blen (x := nv lv) (by omega) (by omega)
      have hlv := cn_len64 hcv (k := 2000) (by have h : nv lv = nv lx - 1 := hcv.val; show Ma.blen (nv lx - 1) ≤ _; rw [← h]; exact hbv)
      refine l_assign rfl rfl rfl ?_
      refine l_nil ?_
      refine e_then ?_
      refine c_keep [1, 7, 8, 15, 20, 21] (.cons rfl (.cons rfl (.cons rfl (.cons rfl (.cons rfl (.cons rfl .nil)))))) ?_
      refine c_seq ?_
      refine c_region ?_
      refine l_move rfl rfl rfl ?_
      refine l_move rfl rfl rfl ?_
      refine l_move rfl rfl rfl ?_
      refine l_call rfl rfl Try.func11 rfl rfl (.cons rfl (.cons rfl (.cons rfl (.cons rfl .nil)))) (roundB (9 + n % 2) false vu vy lu ly (U.of_dg hcu.dg) (U.of_dg hcy.dg) (by omega) (by omega) w22 (hw22.io mem4) (hw22.io mem8)) ?_
      rintro _ w23 ⟨res, rfl, hJ, hG⟩
      have hw23 := hG _ _ _ _ hw22
      try clear hG hw22
      simp only [List.cons_append, List.nil_append] at hw23
      obtain ⟨ex1, hR1⟩ := hbf.2.2.2.1
      have his := RoundR.is (neg := false) hk (x := nv lu) (y := nv ly) (by omega) (by omega) (by rw [hv_lu, hvy]; exact hR1)
      rw [sg_pos] at his
      obtain rfl := hJ.unique (by omega) his
      refine l_move rfl rfl rfl ?_
      refine l_extract rfl rfl rfl rfl ?_
      refine l_extract rfl rfl rfl rfl ?_
      refine l_extract rfl rfl rfl rfl ?_
      refine l_assign rfl rfl rfl ?_
      refine l_assign rfl rfl rfl ?_
      refine l_assign rfl rfl rfl ?_
      refine l_nil ?_
      refine e_then ?_
      refine c_keep [1, 7, 8, 15, 18, 21, 22] (.cons rfl (.cons rfl (.cons rfl (.cons rfl (.cons rfl (.cons rfl (.cons rfl .nil))))))) ?_
      refine c_seq ?_
      refine c_region ?_
      refine l_move rfl rfl rfl ?_
      refine l_move rfl rfl rfl ?_
      refine l_move rfl rfl rfl ?_
      refine l_call rfl rfl Try.func11 rfl rfl (.cons rfl (.cons rfl (.cons rfl (.cons rfl .nil)))) (roundB (9 + n % 2) false vv vy lv ly (U.of_dg hcv.dg) (U.of_dg hcy.dg) (by omega) (by omega) w23 (hw23.io mem0) (hw23.io mem8)) ?_
      rintro _ w24 ⟨res, rfl, hJ, hG⟩
      have hw24 := hG _ _ _ _ hw23
      try clear hG hw23
      simp only [List.cons_append, List.nil_append] at hw24
      obtain ⟨ex2, hR2⟩ := hbf.2.2.2.2
      have his := RoundR.is (neg := false) hk (x := nv lv) (y := nv ly) (by omega) (by omega) (by rw [hv_lv, hvy]; exact hR2)
      rw [sg_pos] at his
      obtain rfl := hJ.unique (by omega) his
      refine l_move rfl rfl rfl ?_
      refine l_extract rfl rfl rfl rfl ?_
      refine l_extract rfl rfl rfl rfl ?_
      refine l_extract rfl rfl rfl rfl ?_
      refine l_assign rfl rfl rfl ?_
      refine l_assign rfl rfl rfl ?_
      refine l_assign rfl rfl rfl ?_
      refine l_nil ?_
      refine e_then ?_
      refine c_keep [1, 8, 18, 22, 24, 26] (.cons rfl (.cons rfl (.cons rfl (.cons rfl (.cons rfl (.cons rfl .nil)))))) ?_
      refine c_seq ?_
      refine c_region ?_
      refine l_move rfl rfl rfl ?_
      refine l_callp rfl rfl Try.func13 rfl rfl (.cons rfl .nil) (num3 _ _) ?_
      refine l_eql rfl rfl rfl rfl ?_
      refine l_turn (s := 182) (v' := .bool true) rfl (by simp) ?_
      refine l_move rfl rfl rfl ?_
      refine l_move rfl rfl rfl ?_
      refine l_callp rfl rfl Try.func13 rfl rfl (.cons rfl .nil) (num3 _ _) ?_
      refine l_eql rfl rfl rfl rfl ?_
      refine l_turn (s := 186) (v' := .bool true) rfl (by simp) ?_
      refine l_pick_t rfl rfl rfl rfl ?_
      refine l_move rfl rfl rfl ?_
      refine l_move rfl rfl rfl ?_
      refine l_move rfl rfl rfl ?_
      refine l_eql rfl rfl rfl rfl ?_
      refine l_turn (s := 191) (v' := .bool true) rfl (by simp) ?_
      refine l_pick_t rfl rfl rfl rfl ?_
      refine l_move rfl rfl rfl ?_
      refine l_move rfl rfl rfl ?_
      refine l_move rfl rfl rfl ?_
      refine l_eql rfl rfl rfl rfl ?_
      refine l_turn (s := 196) (v' := .bool true) rfl (by simp) ?_
      refine l_pick_t rfl rfl rfl rfl ?_
      refine l_move rfl rfl rfl ?_
      refine l_call rfl rfl Try.func14 rfl rfl .nil (wakes3 w24) ?_
      rintro _ w25 ⟨rfl, hG⟩
      have hw25 := hG _ _ _ _ hw24
      try clear hG hw24
      simp only [List.cons_append, List.nil_append] at hw25
      refine l_turn (s := 199) (v' := .bool true) rfl (by rfl) ?_
      refine l_pick_t rfl rfl rfl rfl ?_
      refine l_assign rfl rfl rfl ?_
      refine l_nil ?_
      refine e_then ?_
      refine c_keep [6] (.cons rfl .nil) ?_
      refine c_ret ?_
      refine e_done1 Try.results5 rfl ?_
      refine ⟨_, rfl, ?_⟩
      have hw26 := St.del (.tail (.tail (.tail (.tail (.tail (.tail (.tail (.tail (.tail (.tail (.tail .head))))))))))) hw25
      try clear hw25
      have hw27 := St.del (.tail (.tail (.tail (.tail (.tail (.tail (.tail (.tail (.tail (.tail .head)))))))))) hw26
      try clear hw26
      have hw28 := St.del (.tail (.tail (.tail (.tail (.tail (.tail (.tail (.tail (.tail .head))))))))) hw27
      try clear hw27
      have hw29 := St.del (.tail (.tail (.tail (.tail (.tail (.tail (.tail (.tail .head)))))))) hw28
      try clear hw28
      have hw30 := St.del (.tail (.tail (.tail (.tail (.tail (.tail (.tail .head))))))) hw29
      try clear hw29
      have hw31 := St.del (.tail (.tail (.tail (.tail (.tail (.tail .head)))))) hw30
      try clear hw30
      have hw32 := St.del (.tail (.tail (.tail (.tail (.tail .head))))) hw31
      try clear hw31
      have hw33 := St.del (.tail (.tail (.tail (.tail .head)))) hw32
      try clear hw32
      have hw34 := St.del (.tail (.tail (.tail .head))) hw33
      try clear hw33
      have hw35 := St.del (.tail (.tail .head)) hw34
      try clear hw34
      have hw36 := St.del (.tail .head) hw35
      try clear hw35
      have hw37 := St.del .head hw36
      try clear hw36
      exact ⟨rfl, hw37.grows⟩
    · skip
      refine c_skip ?_
      refine e_then ?_
      refine c_keep [1, 7, 8, 14, 15, 16, 17, 18, 19] (.cons rfl (.cons rfl (.cons rfl (.cons rfl (.cons rfl (.cons rfl (.cons rfl (.cons rfl (.cons rfl .nil))))))))) ?_
      refine c_seq ?_
      refine c_seq ?_
      refine c_region ?_
      refine l_move rfl rfl rfl ?_
      refine l_callp rfl rfl Try.func13 rfl rfl (.cons rfl .nil) (num3 _ _) ?_
      refine l_neq rfl rfl rfl rfl ?_
      refine l_turn (s := 145) (v' := .bool false) rfl (by simp) ?_
      refine l_move rfl rfl rfl ?_
      refine l_move rfl rfl rfl ?_
      refine l_turn (s := 147) (v' := .bool false) rfl (by rfl) ?_
      refine l_pick_f rfl rfl rfl rfl ?_
      refine l_move rfl rfl rfl ?_
      refine l_move rfl rfl rfl ?_
      refine l_move rfl rfl rfl ?_
      refine l_neq rfl rfl rfl rfl ?_
      refine l_turn (s := 152) (v' := .bool false) rfl (by first | (rw [if_pos (by omega)]; simp) | (rw [if_neg (by omega)]; simp)) ?_
      refine l_pick_f rfl rfl rfl rfl ?_
      refine l_nil ?_
      refine e_then ?_
      refine c_keep [1, 7, 8, 14, 15, 153] (.cons rfl (.cons rfl (.cons rfl (.cons rfl (.cons rfl (.cons rfl .nil)))))) ?_
      refine c_cond_f rfl rfl ?_
      refine c_skip ?_
      refine e_then ?_
      refine c_keep [1, 7, 8, 14, 15] (.cons rfl (.cons rfl (.cons rfl (.cons rfl (.cons rfl .nil))))) ?_
      refine c_seq ?_
      refine c_region ?_
      refine l_move rfl rfl rfl ?_
      refine l_call rfl rfl Try.func23 rfl rfl (.cons rfl .nil) (numR vx lx (U.of_dg hcx.dg) (by omega) w14 (hw14.io mem1)) ?_
      rintro vn w38 ⟨_, ln, rfl, hRn, hG⟩
      have hw38 := hG _ _ _ _ hw14
      try clear hG hw14
      simp only [List.cons_append, List.nil_append] at hw38
      have hlnn := R16.len_num (U.of_dg hcx.dg) hRn
      refine v_lit hw38 rfl rfl Try.underlying46 ti3 rfl (.cons rfl (by first | rfl | assumption) .nil) rfl rfl rfl (fun b23_2 w39 hw39 => ?_)
      try clear hw38
      refine l_call rfl rfl Try.func22 rfl rfl (.cons rfl (.cons rfl .nil)) (sumR _ _ _ _ _ _ hRn R16.one1 (by omega) (by simp) w39 (hw39.io mem1) (hw39.ibl mem0)) ?_
      rintro vt w40 ⟨_, lt, rfl, hRt, hG⟩
      have hw40 := hG _ _ _ _ hw39
      try clear hG hw39
      simp only [List.cons_append, List.nil_append] at hw40
      refine l_call rfl rfl Try.func21 rfl rfl (.cons rfl .nil) (wordsR vt lt _ hRt (by have := hRt.len_lt (k := 2000) (by show nv lx + 1 < _; omega); omega) w40 (hw40.io mem0)) ?_
      rintro vu w41 ⟨_, lu, rfl, hcu, hG⟩
      have hw41 := hG _ _ _ _ hw40
      try clear hG hw40
      simp only [List.cons_append, List.nil_append] at hw41
      have hv_lu : nv lu = (2 * man + 1) * m3 * 2 ^ (exp - 1).toNat + 1 := by
        have h : nv lu = nv lx + 1 := hcu.val
        rw [h, hv_lx]
      have hbu := small_blen (x := nv lu) (by omega) (by omega)
      have hlu := cn_len64 hcu (k := 2000) (by have h : nv lu = nv lx + 1 := hcu.val; show Ma.blen (nv lx + 1) ≤ _; rw [← h]; exact hbu)
      refine l_assign rfl rfl rfl ?_
      refine l_nil ?_
      refine e_then ?_
      refine c_keep [1, 7, 8, 14, 15, 20] (.cons rfl (.cons rfl (.cons rfl (.cons rfl (.cons rfl (.cons rfl .nil)))))) ?_
      refine c_seq ?_
      refine c_region ?_
      refine l_move rfl rfl rfl ?_
      refine l_call rfl rfl Try.func23 rfl rfl (.cons rfl .nil) (numR vx lx (U.of_dg hcx.dg) (by omega) w41 (hw41.io mem5)) ?_
      rintro vo w42 ⟨_, lo, rfl, hRo, hG⟩
      have hw42 := hG _ _ _ _ hw41
      try clear hG hw41
      simp only [List.cons_append, List.nil_append] at hw42
      have hlno := R16.len_num (U.of_dg hcx.dg) hRo
      refine v_lit hw42 rfl rfl Try.underlying46 ti3 rfl (.cons rfl (by first | rfl | assumption) .nil) rfl rfl rfl (fun b24_2 w43 hw43 => ?_)
      try clear hw42
      refine l_call rfl rfl Try.func24 rfl rfl (.cons rfl (.cons rfl .nil)) (lessR _ _ _ _ _ _ hRo R16.one1 (by omega) (by simp) (by show 1 ≤ nv lx; omega) w43 (hw43.io mem1) (hw43.ibl mem0)) ?_
      rintro vs w44 ⟨_, ls, rfl, hRs, hG⟩
      have hw44 := hG _ _ _ _ hw43
      try clear hG hw43
      simp only [List.cons_append, List.nil_append] at hw44
      refine l_call rfl rfl Try.func21 rfl rfl (.cons rfl .nil) (wordsR vs ls _ hRs (by have := hRs.len_lt (k := 2000) (by show nv lx - 1 < _; omega); omega) w44 (hw44.io mem0)) ?_
      rintro vv w45 ⟨_, lv, rfl, hcv, hG⟩
      have hw45 := hG _ _ _ _ hw44
      try clear hG hw44
      simp only [List.cons_append, List.nil_append] at hw45
      have hv_lv : nv lv = (2 * man + 1) * m3 * 2 ^ (exp - 1).toNat - 1 := by
        have h : nv lv = nv lx - 1 := hcv.val
        rw [h, hv_lx]
      have hbv := small_blen (x := nv lv) (by omega) (by omega)
      have hlv := cn_len64 hcv (k := 2000) (by have h : nv lv = nv lx - 1 := hcv.val; show Ma.blen (nv lx - 1) ≤ _; rw [← h]; exact hbv)
      refine l_assign rfl rfl rfl ?_
      refine l_nil ?_
      refine e_then ?_
      refine c_keep [1, 7, 8, 15, 20, 21] (.cons rfl (.cons rfl (.cons rfl (.cons rfl (.cons rfl (.cons rfl .nil)))))) ?_
      refine c_seq ?_
      refine c_region ?_
      refine l_move rfl rfl rfl ?_
      refine l_move rfl rfl rfl ?_
      refine l_move rfl rfl rfl ?_
      refine l_call rfl rfl Try.func11 rfl rfl (.cons rfl (.cons rfl (.cons rfl (.cons rfl .nil)))) (roundB (9 + n % 2) false vu vy lu ly (U.of_dg hcu.dg) (U.of_dg hcy.dg) (by omega) (by omega) w45 (hw45.io mem4) (hw45.io mem8)) ?_
      rintro _ w46 ⟨res, rfl, hJ, hG⟩
      have hw46 := hG _ _ _ _ hw45
      try clear hG hw45
      simp only [List.cons_append, List.nil_append] at hw46
      obtain ⟨ex1, hR1⟩ := hbf.2.2.2.1
      have his := RoundR.is (neg := false) hk (x := nv lu) (y := nv ly) (by omega) (by omega) (by rw [hv_lu, hvy]; exact hR1)
      rw [sg_pos] at his
      obtain rfl := hJ.unique (by omega) his
      refine l_move rfl rfl rfl ?_
      refine l_extract rfl rfl rfl rfl ?_
      refine l_extract rfl rfl rfl rfl ?_
      refine l_extract rfl rfl rfl rfl ?_
      refine l_assign rfl rfl rfl ?_
      refine l_assign rfl rfl rfl ?_
      refine l_assign rfl rfl rfl ?_
      refine l_nil ?_
      refine e_then ?_
      refine c_keep [1, 7, 8, 15, 18, 21, 22] (.cons rfl (.cons rfl (.cons rfl (.cons rfl (.cons rfl (.cons rfl (.cons rfl .nil))))))) ?_
      refine c_seq ?_
      refine c_region ?_
      refine l_move rfl rfl rfl ?_
      refine l_move rfl rfl rfl ?_
      refine l_move rfl rfl rfl ?_
      refine l_call rfl rfl Try.func11 rfl rfl (.cons rfl (.cons rfl (.cons rfl (.cons rfl .nil)))) (roundB (9 + n % 2) false vv vy lv ly (U.of_dg hcv.dg) (U.of_dg hcy.dg) (by omega) (by omega) w46 (hw46.io mem0) (hw46.io mem8)) ?_
      rintro _ w47 ⟨res, rfl, hJ, hG⟩
      have hw47 := hG _ _ _ _ hw46
      try clear hG hw46
      simp only [List.cons_append, List.nil_append] at hw47
      obtain ⟨ex2, hR2⟩ := hbf.2.2.2.2
      have his := RoundR.is (neg := false) hk (x := nv lv) (y := nv ly) (by omega) (by omega) (by rw [hv_lv, hvy]; exact hR2)
      rw [sg_pos] at his
      obtain rfl := hJ.unique (by omega) his
      refine l_move rfl rfl rfl ?_
      refine l_extract rfl rfl rfl rfl ?_
      refine l_extract rfl rfl rfl rfl ?_
      refine l_extract rfl rfl rfl rfl ?_
      refine l_assign rfl rfl rfl ?_
      refine l_assign rfl rfl rfl ?_
      refine l_assign rfl rfl rfl ?_
      refine l_nil ?_
      refine e_then ?_
      refine c_keep [1, 8, 18, 22, 24, 26] (.cons rfl (.cons rfl (.cons rfl (.cons rfl (.cons rfl (.cons rfl .nil)))))) ?_
      refine c_seq ?_
      refine c_region ?_
      refine l_move rfl rfl rfl ?_
      refine l_callp rfl rfl Try.func13 rfl rfl (.cons rfl .nil) (num3 _ _) ?_
      refine l_eql rfl rfl rfl rfl ?_
      refine l_turn (s := 182) (v' := .bool true) rfl (by simp) ?_
      refine l_move rfl rfl rfl ?_
      refine l_move rfl rfl rfl ?_
      refine l_callp rfl rfl Try.func13 rfl rfl (.cons rfl .nil) (num3 _ _) ?_
      refine l_eql rfl rfl rfl rfl ?_
      refine l_turn (s := 186) (v' := .bool true) rfl (by simp) ?_
      refine l_pick_t rfl rfl rfl rfl ?_
      refine l_move rfl rfl rfl ?_
      refine l_move rfl rfl rfl ?_
      refine l_move rfl rfl rfl ?_
      refine l_eql rfl rfl rfl rfl ?_
      refine l_turn (s := 191) (v' := .bool true) rfl (by simp) ?_
      refine l_pick_t rfl rfl rfl rfl ?_
      refine l_move rfl rfl rfl ?_
      refine l_move rfl rfl rfl ?_
      refine l_move rfl rfl rfl ?_
      refine l_eql rfl rfl rfl rfl ?_
      refine l_turn (s := 196) (v' := .bool true) rfl (by simp) ?_
      refine l_pick_t rfl rfl rfl rfl ?_
      refine l_move rfl rfl rfl ?_
      refine l_call rfl rfl Try.func14 rfl rfl .nil (wakes3 w47) ?_
      rintro _ w48 ⟨rfl, hG⟩
      have hw48 := hG _ _ _ _ hw47
      try clear hG hw47
      simp only [List.cons_append, List.nil_append] at hw48
      refine l_turn (s := 199) (v' := .bool true) rfl (by rfl) ?_
      refine l_pick_t rfl rfl rfl rfl ?_
      refine l_assign rfl rfl rfl ?_
      refine l_nil ?_
      refine e_then ?_
      refine c_keep [6] (.cons rfl .nil) ?_
      refine c_ret ?_
      refine e_done1 Try.results5 rfl ?_
      refine ⟨_, rfl, ?_⟩
      have hw49 := St.del (.tail (.tail (.tail (.tail (.tail (.tail (.tail (.tail (.tail (.tail (.tail .head))))))))))) hw48
      try clear hw48
      have hw50 := St.del (.tail (.tail (.tail (.tail (.tail (.tail (.tail (.tail (.tail (.tail .head)))))))))) hw49
      try clear hw49
      have hw51 := St.del (.tail (.tail (.tail (.tail (.tail (.tail (.tail (.tail (.tail .head))))))))) hw50
      try clear hw50
      have hw52 := St.del (.tail (.tail (.tail (.tail (.tail (.tail (.tail (.tail .head)))))))) hw51
      try clear hw51
      have hw53 := St.del (.tail (.tail (.tail (.tail (.tail (.tail (.tail .head))))))) hw52
      try clear hw52
      have hw54 := St.del (.tail (.tail (.tail (.tail (.tail (.tail .head)))))) hw53
      try clear hw53
      have hw55 := St.del (.tail (.tail (.tail (.tail (.tail .head))))) hw54
      try clear hw54
      have hw56 := St.del (.tail (.tail (.tail (.tail .head)))) hw55
      try clear hw55
      have hw57 := St.del (.tail (.tail (.tail .head))) hw56
      try clear hw56
      have hw58 := St.del (.tail (.tail .head)) hw57
      try clear hw57
      have hw59 := St.del (.tail .head) hw58
      try clear hw58
      have hw60 := St.del .head hw59
      try clear hw59
      exact ⟨rfl, hw60.grows⟩
end Go.Proofs.Ytidbonodfmicgaa.W
