/- walks of pack, twice, ratio, Round, Join -/
import Derived.Test.YtmcbdgpcbcldjaaGc
import Derived.Test.YtmcbdgpcbcldjaaFm
set_option linter.unusedVariables false
set_option linter.unusedSimpArgs false
set_option maxRecDepth 10000
namespace Go.Proofs.Ytmcbdgpcbcldjaa.W
open Go.Vc Go.RowKit

/-- pack's tail, step by step -/
def t1P (x rest : Int) (some : Bool) : Int := if 9223372036854775808 < rest ∨ rest = 9223372036854775808 ∧ (some = true ∨ x % 2 = 1) then x + 1 else x
def t2P (d : Kd) (x u : Int) : Int × Int := if x / 2 ^ d.M = 1 then (x / 2, u + 1) else (x, u)
def t3P (d : Kd) (p : Int × Int) : Int := if p.1 / d.H = 1 then p.1 + p.2 * d.H else p.1
theorem tailP_eq (d : Kd) (x rest : Int) (some : Bool) (u : Int) : tailP d x rest some u = if d.I ≤ t3P d (t2P d (t1P x rest some) u) then (0, false, 34) else (t3P d (t2P d (t1P x rest some) u), decide (rest = 0 ∧ some = false), 0) := rfl
theorem packF_eq (d : Kd) (man exp : Int) (some : Bool) {e unit x rest : Int} {s2 : Bool} (he : e = min (max exp (-2500)) 2500) (hu : unit = max (e + Ma.blen man - d.M) (-(d.l : Int))) (hs : (x, rest, s2) = sw man (unit - e) some) : packF d man exp some = tailP d x rest s2 (unit + d.l) := by
  unfold packF
  simp only
  rw [← he, ← hu, ← hs]
theorem sw_bd (d : Kd) {man down : Int} {some : Bool} {x rest : Int} {s2 : Bool} (hm : 0 ≤ man ∧ man ≤ 18446744073709551615) (hd : Ma.blen man - d.M ≤ down) (h : (x, rest, s2) = sw man down some) : 0 ≤ x ∧ x < 2 * d.H ∧ 0 ≤ rest ∧ rest ≤ 18446744073709551615 := by
  have hH := d.hH0
  obtain ⟨k, hk⟩ := Int.eq_ofNat_of_zero_le (Ma.blen_nonneg man)
  have hlt := (Ma.blen_le_iff hm.1 k).1 (by omega)
  unfold sw at h
  split at h
  · obtain ⟨t, ht⟩ : ∃ t : Nat, -down = t := ⟨(-down).toNat, by omega⟩
    rw [ht, Int.toNat_natCast] at h
    injection h with h1 h2
    injection h2 with h2 h3
    rw [h1, h2]
    have e1 : man * 2 ^ t < 2 ^ k * 2 ^ t := Int.mul_lt_mul_of_pos_right hlt (p2 t)
    have e2 := Ma.pow_mono (show (1 : Int) ≤ 2 by omega) (show k + t ≤ d.M by omega)
    rw [Int.pow_add, d.hM] at e2
    have e0 := Int.mul_nonneg hm.1 (Int.le_of_lt (p2 t))
    have e3 : man * 2 ^ t % 18446744073709551616 ≤ man * 2 ^ t := by
      have := Int.emod_add_mul_ediv (man * 2 ^ t) 18446744073709551616
      have : 0 ≤ man * 2 ^ t / 18446744073709551616 := Int.ediv_nonneg e0 (by omega)
      omega
    omega
  · split at h
    · injection h with h1 h2
      injection h2 with h2 h3
      rw [h1, h2]
      omega
    · split at h
      · obtain ⟨t, ht⟩ : ∃ t : Nat, down = t := ⟨down.toNat, by omega⟩
        rw [ht, Int.toNat_natCast] at h
        injection h with h1 h2
        injection h2 with h2 h3
        rw [h1, h2]
        have e1 : 0 ≤ man / 2 ^ t := Int.ediv_nonneg hm.1 (Int.le_of_lt (p2 t))
        have e2 : man / 2 ^ t < 2 * d.H := by
          refine Int.ediv_lt_of_lt_mul (p2 _) ?_
          rw [← d.hM, ← Int.pow_add]
          exact Int.lt_of_lt_of_le hlt (Ma.pow_mono (by omega) (by omega))
        omega
      · injection h with h1 h2
        injection h2 with h2 h3
        rw [h1, h2]
        have e2 : man < 2 * d.H := by
          rw [← d.hM]
          exact Int.lt_of_lt_of_le hlt (Ma.pow_mono (by omega) (by omega))
        omega
theorem t1_bd {x rest : Int} {some : Bool} {y : Int} (h : 0 ≤ x ∧ x < 2 * y) : 0 ≤ t1P x rest some ∧ t1P x rest some ≤ 2 * y := by unfold t1P; split <;> omega
theorem t2_bd (d : Kd) {x u : Int} (h : 0 ≤ x ∧ x ≤ 2 * d.H) (hu : 0 ≤ u) : 0 ≤ (t2P d x u).1 ∧ (t2P d x u).1 ≤ 2 * d.H ∧ u ≤ (t2P d x u).2 ∧ (t2P d x u).2 ≤ u + 1 := by
  unfold t2P
  split <;> simp only <;> omega
theorem t3_mul (d : Kd) {u : Int} (hu : 0 ≤ u ∧ u ≤ 3600) : 0 ≤ u * d.H ∧ u * d.H ≤ 16212958658533785600 := by
  have h1 := Int.mul_nonneg hu.1 (Int.le_of_lt d.hH0)
  have h2 : u * d.H ≤ 3600 * d.H := Int.mul_le_mul_of_nonneg_right hu.2 (Int.le_of_lt d.hH0)
  have h3 : d.H ≤ 4503599627370496 := by cases d <;> decide
  omega
theorem shr_M (d : Kd) {b : Int} (_h : 0 ≤ b) : b.fdiv (2 ^ (min (d.M : Int).toNat 64)) = b / 2 ^ d.M := by
  cases d <;> exact Int.fdiv_eq_ediv_of_nonneg _ (by decide)
theorem shl_H (d : Kd) {b : Int} (h : 0 ≤ b * d.H ∧ b * d.H ≤ 18446744073709551615) : IntKind.u64.wrap (b * 2 ^ (min ((d.M : Int) - 1).toNat 64)) = b * d.H := by
  cases d <;> exact w_u64 h
theorem shl_t {b down : Int} (h : down ≤ 0) (h2 : -64 ≤ down) : IntKind.u64.wrap (b * 2 ^ (min (0 - down).toNat 64)) = b * 2 ^ (-down).toNat % 18446744073709551616 := by
  rw [show min (0 - down).toNat 64 = (-down).toNat by omega]
  exact w_u64m _
theorem shr_t {b down : Int} (h : 0 ≤ down) (h2 : down ≤ 64) : b.fdiv (2 ^ (min down.toNat 64)) = b / 2 ^ down.toNat := by
  rw [show min down.toNat 64 = down.toNat by omega]
  exact Int.fdiv_eq_ediv_of_nonneg _ (Int.le_of_lt (p2 _))
theorem shl_r {b down : Int} (h : 0 ≤ down) (h2 : down ≤ 64) : IntKind.u64.wrap (b * 2 ^ (min (64 - down).toNat 64)) = b * 2 ^ (64 - down.toNat) % 18446744073709551616 := by
  rw [show min (64 - down).toNat 64 = 64 - down.toNat by omega]
  exact w_u64m _

theorem packB (d : Kd) (man exp : Int) (some : Bool) (hm : 0 ≤ man ∧ man ≤ 18446744073709551615) (hx : -9223372036854775808 ≤ exp ∧ exp ≤ 9223372036854775807) (w : World) :
    CallsV P 31 [.agg #[.int .i64 (d.M : Int), .int .i64 (-(d.l : Int)), .int .i64 (d.A : Int)], .int .u64 man, .int .i64 exp, .bool some] w fun r w' => r = .tuple #[.int .u64 (packF d man exp some).1, .bool (packF d man exp some).2.1, .int .i64 (packF d man exp some).2.2] ∧ Grow w w' [] := by
  refine enterW Try.func31 rfl Try.ntmps31 rfl ?_
  have hw0 := St.start w
  have hbd := d.bd
  have hbl0 := Ma.blen_nonneg man
  have hbl1 : Ma.blen man ≤ (64 : Nat) := (Ma.blen_le_iff hm.1 64).2 (by rw [show (2 : Int) ^ 64 = 18446744073709551616 by rfl]; omega)
  have hMl : 149 ≤ (d.l : Int) ∧ (d.l : Int) ≤ 1074 ∧ (d.l : Int) ≤ 21 * d.M := by cases d <;> decide
  refine c_seq ?_
  refine c_region ?_
  refine l_box hw0 rfl rfl rfl (fun b0_0 w1 hw1 => ?_)
  try clear hw0
  refine l_assign rfl rfl rfl ?_
  refine l_assign rfl rfl rfl ?_
  refine l_assign rfl rfl rfl ?_
  refine l_nil ?_
  refine e_then ?_
  refine c_keep [1, 2, 3, 4] (.cons rfl (.cons rfl (.cons rfl (.cons rfl .nil)))) ?_
  refine c_seq ?_
  refine c_region ?_
  refine l_move rfl rfl rfl ?_
  refine l_max rfl rfl rfl rfl ?_
  refine l_min rfl rfl rfl rfl ?_
  refine l_assign rfl rfl rfl ?_
  refine l_nil ?_
  refine e_then ?_
  refine c_keep [1, 2, 3, 4] (.cons rfl (.cons rfl (.cons rfl (.cons rfl .nil)))) ?_
  refine c_cutk (ι := Int) (fun (unit : Int) (w' : World) => St w w.heap.size None' ([As.blk b0_0 61 [.int .i64 (d.M : Int), .int .i64 (-(d.l : Int)), .int .i64 (d.A : Int)]]) w' ∧ unit = max (min (max exp (-2500)) 2500 + Ma.blen man - d.M) (-(d.l : Int))) (fun (unit : Int) => [(11, .int .i64 unit)]) [1, 2, 3, 4] (.cons rfl (.cons rfl (.cons rfl (.cons rfl .nil)))) ?_ ?_
  · skip
    have hw2 := hw1.drewn
    try clear hw1
    refine c_any (n := 11) [false, false, false, false, false, false, false, false, false, false, false] (fun wS => (As.blk b0_0 61 [.int .i64 (d.M : Int), .int .i64 (-(d.l : Int)), .int .i64 (d.A : Int)]).ok wS) (by kernel_rfl) rfl rfl ?_
    apply a_take (L' := [true, false, false, false, false, false, false, false, false, false, false]) 0 rfl (by kernel_rfl) (by kernel_rfl) (by kernel_rfl) rfl rfl rfl rfl rfl (hw2.ok mem0)
    · intro wS sS
      refine l_move rfl rfl rfl ?_
      refine l_nil ?_
      exact e_got rfl
    apply a_take (L' := [true, true, false, false, false, false, false, false, false, false, false]) 1 rfl (by kernel_rfl) (by kernel_rfl) (by kernel_rfl) rfl rfl rfl rfl rfl (hw2.ok mem0)
    · intro wS sS
      refine l_move rfl rfl rfl ?_
      refine l_nil ?_
      exact e_got rfl
    apply a_take (L' := [true, true, false, false, true, false, false, false, false, false, false]) 4 rfl (by kernel_rfl) (by kernel_rfl) (by kernel_rfl) rfl rfl rfl rfl rfl (hw2.ok mem0)
    · intro wS sS
      refine l_field fo61_0 rfl rfl rfl ?_
      refine l_nil ?_
      exact e_got rfl
    apply a_take (L' := [true, true, false, false, true, true, false, false, false, false, false]) 5 rfl (by kernel_rfl) (by kernel_rfl) (by kernel_rfl) rfl rfl rfl rfl rfl (hw2.ok mem0)
    · intro wS sS
      refine l_load_blk (blk_st sS) mem0 rfl rfl Try.underlying3 rfl rfl rfl ?_
      refine l_nil ?_
      exact e_got rfl
    apply a_take (L' := [true, true, false, false, true, true, false, true, false, false, false]) 7 rfl (by kernel_rfl) (by kernel_rfl) (by kernel_rfl) rfl rfl rfl rfl rfl (hw2.ok mem0)
    · intro wS sS
      refine l_field fo61_1 rfl rfl rfl ?_
      refine l_nil ?_
      exact e_got rfl
    apply a_take (L' := [true, true, false, false, true, true, false, true, true, false, false]) 8 rfl (by kernel_rfl) (by kernel_rfl) (by kernel_rfl) rfl rfl rfl rfl rfl (hw2.ok mem0)
    · intro wS sS
      refine l_load_blk (blk_st sS) mem0 rfl rfl Try.underlying3 rfl rfl rfl ?_
      refine l_nil ?_
      exact e_got rfl
    refine a_one (L' := [true, true, true, false, true, true, false, true, true, false, false]) 2 (by kernel_rfl) rfl rfl ?_
    refine l_callp rfl rfl Try.func54 rfl rfl (.cons rfl .nil) (len64 man hm _) ?_
    refine l_nil ?_
    refine e_any (hw2.ok mem0) ?_
    apply a_take (L' := [true, true, true, true, true, true, false, true, true, false, false]) 3 rfl (by kernel_rfl) (by kernel_rfl) (by kernel_rfl) rfl rfl rfl rfl rfl (hw2.ok mem0)
    · intro wS sS
      refine l_add rfl rfl rfl rfl (w_i64 (by omega)) ?_
      refine l_nil ?_
      exact e_got rfl
    apply a_take (L' := [true, true, true, true, true, true, true, true, true, false, false]) 6 rfl (by kernel_rfl) (by kernel_rfl) (by kernel_rfl) rfl rfl rfl rfl rfl (hw2.ok mem0)
    · intro wS sS
      refine l_sub rfl rfl rfl rfl (w_i64 (by omega)) ?_
      refine l_nil ?_
      exact e_got rfl
    refine a_one (L' := [true, true, true, true, true, true, true, true, true, true, false]) 9 (by kernel_rfl) rfl rfl ?_
    refine l_max rfl rfl rfl rfl ?_
    refine l_nil ?_
    refine e_any (hw2.ok mem0) ?_
    apply a_take (L' := [true, true, true, true, true, true, true, true, true, true, true]) 10 rfl (by kernel_rfl) (by kernel_rfl) (by kernel_rfl) rfl rfl rfl rfl rfl (hw2.ok mem0)
    · intro wS sS
      refine l_assign rfl rfl rfl ?_
      refine l_nil ?_
      exact e_got rfl
    refine a_done (by kernel_rfl) ?_
    refine e_meetk (max (min (max exp (-2500)) 2500 + Ma.blen man - d.M) (-(d.l : Int))) ?_ (.cons rfl (.cons rfl (.cons rfl (.cons rfl .nil)))) ?_
    · exact ⟨hw2, rfl⟩
    · exact (.cons rfl (by first | rfl | (refine congrArg (Value.int _) ?_; omega)) .nil)
  rintro unit w3 ⟨hw3, hun⟩
  have hu36 : 0 ≤ unit + d.l ∧ unit + d.l ≤ 3599 := by
    have : (d.l : Int) - d.M ≤ 1021 := by cases d <;> decide
    omega
  show RunC P _ _ _ (_ :: _) _
  refine c_seq ?_
  refine c_region ?_
  refine l_move rfl rfl rfl ?_
  refine l_move rfl rfl rfl ?_
  refine l_sub rfl rfl rfl rfl (w_i64 (by omega)) ?_
  refine l_assign rfl rfl rfl ?_
  refine l_nil ?_
  refine e_then ?_
  refine c_keep [1, 3, 4, 11, 12] (.cons rfl (.cons rfl (.cons rfl (.cons rfl (.cons rfl .nil))))) ?_
  refine c_seq ?_
  refine c_region ?_
  refine l_move rfl rfl rfl ?_
  refine l_assign rfl rfl rfl ?_
  refine l_assign rfl rfl rfl ?_
  refine l_nil ?_
  refine e_then ?_
  refine c_keep [1, 3, 4, 11, 12, 13, 14] (.cons rfl (.cons rfl (.cons rfl (.cons rfl (.cons rfl (.cons rfl (.cons rfl .nil))))))) ?_
  refine c_cutk (ι := Int × Int × Bool) (fun (z0 : Int × Int × Bool) (w' : World) => match z0 with | ⟨x, rest, s2⟩ => St w w.heap.size None' ([As.blk b0_0 61 [.int .i64 (d.M : Int), .int .i64 (-(d.l : Int)), .int .i64 (d.A : Int)]]) w' ∧ (x, rest, s2) = sw man (unit - min (max exp (-2500)) 2500) some) (fun (z0 : Int × Int × Bool) => match z0 with | ⟨x, rest, s2⟩ => [(3, .bool s2), (13, .int .u64 x), (14, .int .u64 rest)]) [4, 11] (.cons rfl (.cons rfl .nil)) ?_ ?_
  · skip
    refine c_block ?_
    refine c_seq ?_
    refine c_region ?_
    refine l_move rfl rfl rfl ?_
    refine l_lss rfl rfl rfl rfl ?_
    refine l_assign rfl rfl rfl ?_
    refine l_nil ?_
    refine e_then ?_
    refine c_keep [1, 3, 4, 11, 12, 13, 14, 32] (.cons rfl (.cons rfl (.cons rfl (.cons rfl (.cons rfl (.cons rfl (.cons rfl (.cons rfl .nil)))))))) ?_
    first | refine c_cond rfl (fun hc0 => ?_) (fun hc0 => ?_) | refine c_condb rfl (fun hc0 => ?_) (fun hc0 => ?_)
    · skip
      refine c_region ?_
      refine l_move rfl rfl rfl ?_
      refine l_move rfl rfl rfl ?_
      refine l_neg rfl rfl rfl (w_i64 (by omega)) ?_
      refine l_shl rfl rfl rfl rfl (by omega) (shl_t (by omega) (by omega)) ?_
      refine l_assign rfl rfl rfl ?_
      refine l_nil ?_
      refine e_blk ?_
      refine e_meetk (man * 2 ^ (-(unit - min (max exp (-2500)) 2500)).toNat % 18446744073709551616, 0, some) ?_ (.cons rfl (.cons rfl .nil)) ?_
      · refine ⟨hw3, ?_⟩
        unfold sw
        rw [if_pos (by assumption)]
      · exact (.cons rfl (by first | rfl | (refine congrArg (Value.int _) ?_; omega)) (.cons rfl (by first | rfl | (refine congrArg (Value.int _) ?_; omega)) (.cons rfl (by first | rfl | (refine congrArg (Value.int _) ?_; omega)) .nil)))
    · skip
      refine c_seq ?_
      refine c_region ?_
      refine l_move rfl rfl rfl ?_
      refine l_gtr rfl rfl rfl rfl ?_
      refine l_assign rfl rfl rfl ?_
      refine l_nil ?_
      refine e_then ?_
      refine c_keep [1, 3, 4, 11, 12, 13, 14, 39] (.cons rfl (.cons rfl (.cons rfl (.cons rfl (.cons rfl (.cons rfl (.cons rfl (.cons rfl .nil)))))))) ?_
      first | refine c_cond rfl (fun hc1 => ?_) (fun hc1 => ?_) | refine c_condb rfl (fun hc1 => ?_) (fun hc1 => ?_)
      · skip
        refine c_region ?_
        refine l_assign rfl rfl rfl ?_
        refine l_assign rfl rfl rfl ?_
        refine l_assign rfl rfl rfl ?_
        refine l_nil ?_
        refine e_blk ?_
        refine e_meetk (0, 0, true) ?_ (.cons rfl (.cons rfl .nil)) ?_
        · refine ⟨hw3, ?_⟩
          unfold sw
          rw [if_neg (by assumption), if_pos (by assumption)]
        · exact (.cons rfl (by first | rfl | (refine congrArg (Value.int _) ?_; omega)) (.cons rfl (by first | rfl | (refine congrArg (Value.int _) ?_; omega)) (.cons rfl (by first | rfl | (refine congrArg (Value.int _) ?_; omega)) .nil)))
      · skip
        refine c_seq ?_
        refine c_region ?_
        refine l_move rfl rfl rfl ?_
        refine l_gtr rfl rfl rfl rfl ?_
        refine l_assign rfl rfl rfl ?_
        refine l_nil ?_
        refine e_then ?_
        refine c_keep [1, 3, 4, 11, 12, 13, 14, 42] (.cons rfl (.cons rfl (.cons rfl (.cons rfl (.cons rfl (.cons rfl (.cons rfl (.cons rfl .nil)))))))) ?_
        first | refine c_cond rfl (fun hc2 => ?_) (fun hc2 => ?_) | refine c_condb rfl (fun hc2 => ?_) (fun hc2 => ?_)
        · skip
          refine c_seq ?_
          refine c_region ?_
          refine l_move rfl rfl rfl ?_
          refine l_move rfl rfl rfl ?_
          refine l_shr rfl rfl rfl rfl (by omega) (shr_t (by omega) (by omega)) ?_
          refine l_assign rfl rfl rfl ?_
          refine l_nil ?_
          refine e_then ?_
          refine c_keep [1, 3, 4, 11, 12, 13] (.cons rfl (.cons rfl (.cons rfl (.cons rfl (.cons rfl (.cons rfl .nil)))))) ?_
          refine c_region ?_
          refine l_move rfl rfl rfl ?_
          refine l_move rfl rfl rfl ?_
          refine l_sub rfl rfl rfl rfl (w_i64 (by omega)) ?_
          refine l_shl rfl rfl rfl rfl (by omega) (shl_r (by omega) (by omega)) ?_
          refine l_assign rfl rfl rfl ?_
          refine l_nil ?_
          refine e_blk ?_
          refine e_meetk (man / 2 ^ (unit - min (max exp (-2500)) 2500).toNat, man * 2 ^ (64 - (unit - min (max exp (-2500)) 2500).toNat) % 18446744073709551616, some) ?_ (.cons rfl (.cons rfl .nil)) ?_
          · refine ⟨hw3, ?_⟩
            unfold sw
            rw [if_neg (by omega), if_neg (by omega), if_pos (by omega)]
          · exact (.cons rfl (by first | rfl | (refine congrArg (Value.int _) ?_; omega)) (.cons rfl (by first | rfl | (refine congrArg (Value.int _) ?_; omega)) (.cons rfl (by first | rfl | (refine congrArg (Value.int _) ?_; omega)) .nil)))
        · skip
          refine c_skip ?_
          refine e_blk ?_
          refine e_meetk (man, 0, some) ?_ (.cons rfl (.cons rfl .nil)) ?_
          · refine ⟨hw3, ?_⟩
            unfold sw
            rw [if_neg (by omega), if_neg (by omega), if_neg (by omega)]
          · exact (.cons rfl (by first | rfl | (refine congrArg (Value.int _) ?_; omega)) (.cons rfl (by first | rfl | (refine congrArg (Value.int _) ?_; omega)) (.cons rfl (by first | rfl | (refine congrArg (Value.int _) ?_; omega)) .nil)))
  rintro ⟨x, rest, s2⟩ w4 ⟨hw4, hsw⟩
  have hsb := sw_bd d hm (by omega) hsw
  show RunC P _ _ _ (_ :: _) _
  refine c_cutk (ι := Int) (fun (x1 : Int) (w' : World) => St w w.heap.size None' ([As.blk b0_0 61 [.int .i64 (d.M : Int), .int .i64 (-(d.l : Int)), .int .i64 (d.A : Int)]]) w' ∧ x1 = t1P x rest s2) (fun (x1 : Int) => [(13, .int .u64 x1)]) [3, 4, 11, 14] (.cons rfl (.cons rfl (.cons rfl (.cons rfl .nil)))) ?_ ?_
  · skip
    refine c_seq ?_
    refine c_region ?_
    refine l_move rfl rfl rfl ?_
    refine l_gtr rfl rfl rfl rfl ?_
    refine l_move rfl rfl rfl ?_
    apply l_or (q := rest = 9223372036854775808 ∧ (s2 = true ∨ x % 2 = 1)) 10 [3, 4, 11, 13, 14] rfl rfl (.cons rfl (.cons rfl (.cons rfl (.cons rfl (.cons rfl (.cons rfl .nil)))))) rfl rfl (fun _ => rfl) rfl rfl rfl
    · intro hg12_3
      refine l_move rfl rfl rfl ?_
      refine l_eql rfl rfl rfl rfl ?_
      refine l_move rfl rfl rfl ?_
      apply l_and (q := s2 = true ∨ x % 2 = 1) 6 [3, 4, 11, 13, 14, 54] rfl rfl (.cons rfl (.cons rfl (.cons rfl (.cons rfl (.cons rfl (.cons rfl (.cons rfl .nil))))))) rfl rfl (fun _ => rfl) rfl rfl rfl
      · intro hg12_6
        refine l_move rfl rfl rfl ?_
        refine l_move rfl rfl rfl ?_
        refine l_turn (s := 59) (v' := .bool (decide (s2 = true))) rfl (by cases s2 <;> rfl) ?_
        apply l_or (q := x % 2 = 1) 3 [3, 4, 11, 13, 14, 54, 57] rfl rfl (.cons rfl (.cons rfl (.cons rfl (.cons rfl (.cons rfl (.cons rfl (.cons rfl (.cons rfl .nil)))))))) rfl rfl (fun _ => rfl) rfl rfl rfl
        · intro hg12_8
          refine l_move rfl rfl rfl ?_
          refine l_bits rfl rfl rfl rfl rfl (and_mask 1 (d := 2) (by omega) (by omega) (by decide) (by decide)) ?_
          refine l_eql rfl rfl rfl rfl ?_
          refine l_nil ?_
          exact e_stays rfl (.cons rfl (congrArg Value.bool (decide_eq_false hg12_8).symm) (.cons rfl rfl (.cons rfl rfl (.cons rfl rfl (.cons rfl rfl (.cons rfl rfl (.cons rfl rfl (.cons rfl rfl .nil))))))))
          all_goals infer_instance
        refine l_nil ?_
        exact e_stays rfl (.cons rfl (congrArg Value.bool (decide_eq_true hg12_6).symm) (.cons rfl rfl (.cons rfl rfl (.cons rfl rfl (.cons rfl rfl (.cons rfl rfl (.cons rfl rfl .nil)))))))
        all_goals infer_instance
      refine l_nil ?_
      exact e_stays rfl (.cons rfl (congrArg Value.bool (decide_eq_false hg12_3).symm) (.cons rfl rfl (.cons rfl rfl (.cons rfl rfl (.cons rfl rfl (.cons rfl rfl .nil))))))
      all_goals infer_instance
    refine l_nil ?_
    refine e_then ?_
    refine c_keep [3, 4, 11, 13, 14, 65] (.cons rfl (.cons rfl (.cons rfl (.cons rfl (.cons rfl (.cons rfl .nil)))))) ?_
    first | refine c_cond rfl (fun hc3 => ?_) (fun hc3 => ?_) | refine c_condb rfl (fun hc3 => ?_) (fun hc3 => ?_)
    · skip
      refine c_region ?_
      refine l_move rfl rfl rfl ?_
      refine l_add rfl rfl rfl rfl (w_u64 (by omega)) ?_
      refine l_assign rfl rfl rfl ?_
      refine l_nil ?_
      refine e_meetk (x + 1) ?_ (.cons rfl (.cons rfl (.cons rfl (.cons rfl .nil)))) ?_
      · refine ⟨hw4, ?_⟩
        unfold t1P
        rw [if_pos (by assumption)]
      · exact (.cons rfl (by first | rfl | (refine congrArg (Value.int _) ?_; omega)) .nil)
    · skip
      refine c_skip ?_
      refine e_meetk (x) ?_ (.cons rfl (.cons rfl (.cons rfl (.cons rfl .nil)))) ?_
      · refine ⟨hw4, ?_⟩
        unfold t1P
        rw [if_neg (by assumption)]
      · exact (.cons rfl (by first | rfl | (refine congrArg (Value.int _) ?_; omega)) .nil)
  rintro x1 w5 ⟨hw5, hx1⟩
  have hb1 : 0 ≤ x1 ∧ x1 ≤ 2 * d.H := by rw [hx1]; exact t1_bd ⟨hsb.1, hsb.2.1⟩
  show RunC P _ _ _ (_ :: _) _
  refine c_cutk (ι := Int × Int) (fun (z0 : Int × Int) (w' : World) => match z0 with | ⟨x2, u2⟩ => St w w.heap.size None' ([As.blk b0_0 61 [.int .i64 (d.M : Int), .int .i64 (-(d.l : Int)), .int .i64 (d.A : Int)]]) w' ∧ (x2, u2 + d.l) = t2P d x1 (unit + d.l)) (fun (z0 : Int × Int) => match z0 with | ⟨x2, u2⟩ => [(11, .int .i64 u2), (13, .int .u64 x2)]) [3, 4, 14] (.cons rfl (.cons rfl (.cons rfl .nil))) ?_ ?_
  · skip
    refine c_seq ?_
    refine c_region ?_
    refine l_move rfl rfl rfl ?_
    refine l_field fo61_0 rfl rfl rfl ?_
    refine l_load_blk hw5 mem0 rfl rfl Try.underlying3 rfl rfl rfl ?_
    refine l_shr rfl rfl rfl rfl (by omega) (shr_M d hb1.1) ?_
    refine l_eql rfl rfl rfl rfl ?_
    refine l_nil ?_
    refine e_then ?_
    refine c_keep [3, 4, 11, 13, 14, 72] (.cons rfl (.cons rfl (.cons rfl (.cons rfl (.cons rfl (.cons rfl .nil)))))) ?_
    first | refine c_cond rfl (fun hc4 => ?_) (fun hc4 => ?_) | refine c_condb rfl (fun hc4 => ?_) (fun hc4 => ?_)
    · skip
      refine c_seq ?_
      refine c_region ?_
      refine l_move rfl rfl rfl ?_
      refine l_shr rfl rfl rfl rfl (by omega) (shr_eq (d := 2) (by decide) (by decide)) ?_
      refine l_assign rfl rfl rfl ?_
      refine l_nil ?_
      refine e_then ?_
      refine c_keep [3, 4, 11, 13, 14] (.cons rfl (.cons rfl (.cons rfl (.cons rfl (.cons rfl .nil))))) ?_
      refine c_region ?_
      refine l_move rfl rfl rfl ?_
      refine l_add rfl rfl rfl rfl (w_i64 (by omega)) ?_
      refine l_assign rfl rfl rfl ?_
      refine l_nil ?_
      refine e_meetk (x1 / 2, unit + 1) ?_ (.cons rfl (.cons rfl (.cons rfl .nil))) ?_
      · refine ⟨hw5, ?_⟩
        unfold t2P
        rw [if_pos (by assumption)]
        congr 1
        omega
      · exact (.cons rfl (by first | rfl | (refine congrArg (Value.int _) ?_; omega)) (.cons rfl (by first | rfl | (refine congrArg (Value.int _) ?_; omega)) .nil))
    · skip
      refine c_skip ?_
      refine e_meetk (x1, unit) ?_ (.cons rfl (.cons rfl (.cons rfl .nil))) ?_
      · refine ⟨hw5, ?_⟩
        unfold t2P
        rw [if_neg (by assumption)]
      · exact (.cons rfl (by first | rfl | (refine congrArg (Value.int _) ?_; omega)) (.cons rfl (by first | rfl | (refine congrArg (Value.int _) ?_; omega)) .nil))
  rintro ⟨x2, u2⟩ w6 ⟨hw6, hx2⟩
  have hb2 : 0 ≤ x2 ∧ x2 ≤ 2 * d.H ∧ unit + d.l ≤ u2 + d.l ∧ u2 + d.l ≤ unit + d.l + 1 := by
    have := t2_bd d hb1 (u := unit + d.l) hu36.1
    rw [← hx2] at this
    exact this
  have hub := t3_mul d (u := u2 + d.l) (by omega)
  have hus : u2 - -(d.l : Int) = u2 + d.l := by omega
  have hH53 : d.H ≤ 4503599627370496 := by cases d <;> decide
  show RunC P _ _ _ (_ :: _) _
  refine c_cutk (ι := Int) (fun (x3 : Int) (w' : World) => St w w.heap.size None' ([As.blk b0_0 61 [.int .i64 (d.M : Int), .int .i64 (-(d.l : Int)), .int .i64 (d.A : Int)]]) w' ∧ x3 = t3P d (x2, u2 + d.l)) (fun (x3 : Int) => [(13, .int .u64 x3)]) [3, 4, 14] (.cons rfl (.cons rfl (.cons rfl .nil))) ?_ ?_
  · skip
    refine c_seq ?_
    refine c_region ?_
    refine l_move rfl rfl rfl ?_
    refine l_field fo61_0 rfl rfl rfl ?_
    refine l_load_blk hw6 mem0 rfl rfl Try.underlying3 rfl rfl rfl ?_
    refine l_sub rfl rfl rfl rfl (w_i64 (by omega)) ?_
    refine l_shr rfl rfl rfl rfl (by omega) (shr_H d hb2.1) ?_
    refine l_eql rfl rfl rfl rfl ?_
    refine l_nil ?_
    refine e_then ?_
    refine c_keep [3, 4, 11, 13, 14, 82] (.cons rfl (.cons rfl (.cons rfl (.cons rfl (.cons rfl (.cons rfl .nil)))))) ?_
    first | refine c_cond rfl (fun hc5 => ?_) (fun hc5 => ?_) | refine c_condb rfl (fun hc5 => ?_) (fun hc5 => ?_)
    · skip
      refine c_region ?_
      refine l_move rfl rfl rfl ?_
      refine l_move rfl rfl rfl ?_
      refine l_field fo61_1 rfl rfl rfl ?_
      refine l_load_blk hw6 mem0 rfl rfl Try.underlying3 rfl rfl rfl ?_
      refine l_sub rfl rfl rfl rfl (w_i64 (by omega)) ?_
      refine l_conv rfl rfl Try.underlying3 Try.underlying22 rfl (w_u64 (by omega)) ?_
      refine l_field fo61_0 rfl rfl rfl ?_
      refine l_load_blk hw6 mem0 rfl rfl Try.underlying3 rfl rfl rfl ?_
      refine l_sub rfl rfl rfl rfl (w_i64 (by omega)) ?_
      refine l_shl rfl rfl rfl rfl (by omega) (shl_H d (by rw [hus]; omega)) ?_
      refine l_add rfl rfl rfl rfl (w_u64 (by rw [hus]; omega)) ?_
      refine l_assign rfl rfl rfl ?_
      refine l_nil ?_
      refine e_meetk (x2 + (u2 - -(d.l : Int)) * d.H) ?_ (.cons rfl (.cons rfl (.cons rfl .nil))) ?_
      · refine ⟨hw6, ?_⟩
        unfold t3P
        rw [if_pos (by assumption), hus]
      · exact (.cons rfl (by first | rfl | (refine congrArg (Value.int _) ?_; omega)) .nil)
    · skip
      refine c_skip ?_
      refine e_meetk (x2) ?_ (.cons rfl (.cons rfl (.cons rfl .nil))) ?_
      · refine ⟨hw6, ?_⟩
        unfold t3P
        rw [if_neg (by assumption)]
      · exact (.cons rfl (by first | rfl | (refine congrArg (Value.int _) ?_; omega)) .nil)
  rintro x3 w7 ⟨hw7, hx3⟩
  show RunC P _ _ _ (_ :: _) _
  refine c_seq ?_
  refine c_seq ?_
  refine c_region ?_
  refine l_move rfl rfl rfl ?_
  refine l_load_agg hw7 mem0 rfl rfl Try.underlying61 rfl tz61 rfl (.take (.take (.take .nil))) ?_
  refine l_call rfl rfl Try.func46 rfl rfl (.cons rfl .nil) (infB d w7) ?_
  rintro _ w8 ⟨rfl, hG⟩
  have hw8 := hG _ _ _ _ hw7
  try clear hG hw7
  simp only [List.cons_append, List.nil_append] at hw8
  refine l_geq rfl rfl rfl rfl ?_
  refine l_nil ?_
  refine e_then ?_
  refine c_keep [3, 13, 14, 97] (.cons rfl (.cons rfl (.cons rfl (.cons rfl .nil)))) ?_
  first | refine c_cond rfl (fun hc6 => ?_) (fun hc6 => ?_) | refine c_condb rfl (fun hc6 => ?_) (fun hc6 => ?_)
  · skip
    refine c_seq ?_
    refine c_region ?_
    refine l_assign rfl rfl rfl ?_
    refine l_assign rfl rfl rfl ?_
    refine l_assign rfl rfl rfl ?_
    refine l_nil ?_
    refine e_then ?_
    refine c_keep [8, 9, 10] (.cons rfl (.cons rfl (.cons rfl .nil))) ?_
    refine c_ret ?_
    refine e_then_ret ?_
    refine e_doneN Try.results31 (.tmp rfl (.tmp rfl (.tmp rfl .nil))) rfl ?_
    refine ⟨_, rfl, ?_⟩
    have hw9 := St.del .head hw8
    try clear hw8
    refine ⟨?_, hw9.grows⟩
    rw [packF_eq d man exp some rfl hun hsw, tailP_eq, ← hx1, ← hx2, ← hx3, if_pos (by assumption)]
  · skip
    refine c_skip ?_
    refine e_then ?_
    refine c_keep [3, 13, 14] (.cons rfl (.cons rfl (.cons rfl .nil))) ?_
    refine c_seq ?_
    refine c_region ?_
    refine l_move rfl rfl rfl ?_
    refine l_move rfl rfl rfl ?_
    refine l_eql rfl rfl rfl rfl ?_
    refine l_move rfl rfl rfl ?_
    apply l_and 2 [98] rfl rfl (.cons rfl (.cons rfl .nil)) rfl rfl (fun _ => rfl) rfl rfl rfl
    · intro hg21_4
      refine l_turn (s := 3) (v' := .bool (decide (s2 = true))) rfl (by cases s2 <;> rfl) ?_
      refine l_move rfl rfl rfl ?_
      first | refine l_notd rfl rfl rfl ?_ | refine l_not rfl rfl rfl ?_
      refine l_nil ?_
      exact e_stays rfl (.cons rfl (congrArg Value.bool (decide_eq_true hg21_4).symm) (.cons rfl rfl .nil))
      all_goals infer_instance
    refine l_assign rfl rfl rfl ?_
    refine l_assign rfl rfl rfl ?_
    refine l_assign rfl rfl rfl ?_
    refine l_nil ?_
    refine e_then ?_
    refine c_keep [8, 9, 10] (.cons rfl (.cons rfl (.cons rfl .nil))) ?_
    refine c_ret ?_
    refine e_doneN Try.results31 (.tmp rfl (.tmp rfl (.tmp rfl .nil))) rfl ?_
    refine ⟨_, rfl, ?_⟩
    have hw10 := St.del .head hw8
    try clear hw8
    refine ⟨?_, hw10.grows⟩
    rw [packF_eq d man exp some rfl hun hsw, tailP_eq, ← hx1, ← hx2, ← hx3, if_neg (by assumption)]
    all_goals simp
end Go.Proofs.Ytmcbdgpcbcldjaa.W
