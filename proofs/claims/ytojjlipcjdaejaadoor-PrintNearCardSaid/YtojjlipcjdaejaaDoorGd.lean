/- walks of pack, twice, ratio, Round, Join -/
import Derived.Test.YtojjlipcjdaejaaDoorGa
import Derived.Test.YtojjlipcjdaejaaDoorFm
set_option linter.unusedVariables false
set_option linter.unusedSimpArgs false
set_option maxRecDepth 10000
namespace Go.Proofs.YtojjlipcjdaejaaDoor.W
open Go.Vc Go.RowKit
def t1P (x rest : Int) (some : Bool) : Int := if 9223372036854775808 < rest ∨ rest = 9223372036854775808 ∧ (some = true ∨ x % 2 = 1) then x + 1 else x
def t2P (d : Kd) (x u : Int) : Int × Int := if x / 2 ^ d.M = 1 then (x / 2, u + 1) else (x, u)
def t3P (d : Kd) (p : Int × Int) : Int := if p.1 / d.H = 1 then p.1 + p.2 * d.H else p.1
theorem tailP_eq (d : Kd) (x rest : Int) (some : Bool) (u : Int) : tailP d x rest some u = if d.I ≤ t3P d (t2P d (t1P x rest some) u) then (0, false, 34) else (t3P d (t2P d (t1P x rest some) u), decide (rest = 0 ∧ some = false), 0) := rfl
theorem packF_eq (d : Kd) (man exp : Int) (some : Bool) {e unit x rest : Int} {s2 : Bool} (he : e = min (max exp (-2500)) 2500) (hu : unit = max (e + Ma.blen man - d.M) (-(d.l : Int))) (hs : (x, rest, s2) = sw man (unit - e) some) : packF d man exp some = tailP d x rest s2 (unit + d.l) := by
 unfold packF
 simp only
 rw [← he, ← hu, ← hs]
theorem sw_bd (d : Kd) {man down : Int} {some : Bool} {x rest : Int} {s2 : Bool} (hm : 0 ≤ man ∧ man ≤ 18446744073709551615) (hd : Ma.blen man - d.M ≤ down) (h : (x, rest, s2) = sw man down some) : 0 ≤ x ∧ x < 2 * d.H ∧ 0 ≤ rest ∧ rest ≤ 18446744073709551615 := by
 have hH := d.hH0
 obtain ⟨k, hk⟩ := Int.eq_ofNat_of_zero_le (Ma.blen_nonneg man)
 have hlt := (Ma.blen_le_iff hm.1 k).1 (by omega)
 unfold sw at h
 split at h
 ·obtain ⟨t, ht⟩ : ∃ t : Nat, -down = t := ⟨(-down).toNat, by omega⟩
  rw [ht, Int.toNat_natCast] at h
  injection h with h1 h2
  injection h2 with h2 h3
  rw [h1, h2]
  have e1 : man * 2 ^ t < 2 ^ k * 2 ^ t := Int.mul_lt_mul_of_pos_right hlt (p2 t)
  have e2 := Ma.pow_mono (show (1 : Int) ≤ 2 by omega) (show k + t ≤ d.M by omega)
  rw [Int.pow_add, d.hM] at e2
  have e0 := Int.mul_nonneg hm.1 (Int.le_of_lt (p2 t))
  have e3 : man * 2 ^ t % 18446744073709551616 ≤ man * 2 ^ t := by
   have := Int.emod_add_mul_ediv (man * 2 ^ t) 18446744073709551616
   have : 0 ≤ man * 2 ^ t / 18446744073709551616 := Int.ediv_nonneg e0 (by omega)
   omega
  omega
 ·split at h
  ·injection h with h1 h2
   injection h2 with h2 h3
   rw [h1, h2]
   omega
  ·split at h
   ·obtain ⟨t, ht⟩ : ∃ t : Nat, down = t := ⟨down.toNat, by omega⟩
    rw [ht, Int.toNat_natCast] at h
    injection h with h1 h2
    injection h2 with h2 h3
    rw [h1, h2]
    have e1 : 0 ≤ man / 2 ^ t := Int.ediv_nonneg hm.1 (Int.le_of_lt (p2 t))
    have e2 : man / 2 ^ t < 2 * d.H := by
     refine Int.ediv_lt_of_lt_mul (p2 _) ?_
     rw [← d.hM, ← Int.pow_add]
     exact Int.lt_of_lt_of_le hlt (Ma.pow_mono (by omega) (by omega))
    omega
   ·injection h with h1 h2
    injection h2 with h2 h3
    rw [h1, h2]
    have e2 : man < 2 * d.H := by
     rw [← d.hM]
     exact Int.lt_of_lt_of_le hlt (Ma.pow_mono (by omega) (by omega))
    omega
theorem t1_bd {x rest : Int} {some : Bool} {y : Int} (h : 0 ≤ x ∧ x < 2 * y) : 0 ≤ t1P x rest some ∧ t1P x rest some ≤ 2 * y := by unfold t1P; split <;> omega
theorem t2_bd (d : Kd) {x u : Int} (h : 0 ≤ x ∧ x ≤ 2 * d.H) (hu : 0 ≤ u) : 0 ≤ (t2P d x u).1 ∧ (t2P d x u).1 ≤ 2 * d.H ∧ u ≤ (t2P d x u).2 ∧ (t2P d x u).2 ≤ u + 1 := by
 unfold t2P
 split <;> simp only <;> omega
theorem t3_mul (d : Kd) {u : Int} (hu : 0 ≤ u ∧ u ≤ 3600) : 0 ≤ u * d.H ∧ u * d.H ≤ 16212958658533785600 := by
 have h1 := Int.mul_nonneg hu.1 (Int.le_of_lt d.hH0)
 have h2 : u * d.H ≤ 3600 * d.H := Int.mul_le_mul_of_nonneg_right hu.2 (Int.le_of_lt d.hH0)
 have h3 : d.H ≤ 4503599627370496 := by cases d <;> decide
 omega
theorem shr_M (d : Kd) {b : Int} (_h : 0 ≤ b) : b.fdiv (2 ^ (min (d.M : Int).toNat 64)) = b / 2 ^ d.M := by
 cases d <;> exact Int.fdiv_eq_ediv_of_nonneg _ (by decide)
theorem shl_H (d : Kd) {b : Int} (h : 0 ≤ b * d.H ∧ b * d.H ≤ 18446744073709551615) : IntKind.u64.wrap (b * 2 ^ (min ((d.M : Int) - 1).toNat 64)) = b * d.H := by
 cases d <;> exact w_u64 h
theorem shl_t {b down : Int} (h : down ≤ 0) (h2 : -64 ≤ down) : IntKind.u64.wrap (b * 2 ^ (min (0 - down).toNat 64)) = b * 2 ^ (-down).toNat % 18446744073709551616 := by
 rw [show min (0 - down).toNat 64 = (-down).toNat by omega]
 exact w_u64m _
theorem shr_t {b down : Int} (h : 0 ≤ down) (h2 : down ≤ 64) : b.fdiv (2 ^ (min down.toNat 64)) = b / 2 ^ down.toNat := by
 rw [show min down.toNat 64 = down.toNat by omega]
 exact Int.fdiv_eq_ediv_of_nonneg _ (Int.le_of_lt (p2 _))
theorem shl_r {b down : Int} (h : 0 ≤ down) (h2 : down ≤ 64) : IntKind.u64.wrap (b * 2 ^ (min (64 - down).toNat 64)) = b * 2 ^ (64 - down.toNat) % 18446744073709551616 := by
 rw [show min (64 - down).toNat 64 = 64 - down.toNat by omega]
 exact w_u64m _
theorem packB (d : Kd) (man exp : Int) (some : Bool) (hm : 0 ≤ man ∧ man ≤ 18446744073709551615) (hx : -9223372036854775808 ≤ exp ∧ exp ≤ 9223372036854775807) (w : World) :
  CallsV P 76 [.agg #[.int .i64 (d.M : Int), .int .i64 (-(d.l : Int)), .int .i64 (d.A : Int)], .int .u64 man, .int .i64 exp, .bool some] w fun r w' => r = .tuple #[.int .u64 (packF d man exp some).1, .bool (packF d man exp some).2.1, .int .i64 (packF d man exp some).2.2] ∧ Grow w w' [] := by
 refine enterW Tryd.func76 rfl Tryd.ntmps76 rfl ?_
 have hw0 := St.start w
 have hbd := d.bd
 have hbl0 := Ma.blen_nonneg man
 have hbl1 : Ma.blen man ≤ (64 : Nat) := (Ma.blen_le_iff hm.1 64).2 (by rw [show (2 : Int) ^ 64 = 18446744073709551616 by rfl]; omega)
 have hMl : 149 ≤ (d.l : Int) ∧ (d.l : Int) ≤ 1074 ∧ (d.l : Int) ≤ 21 * d.M := by cases d <;> decide
 refine c_seq (c_region ?_)
 refine l_box hw0 rfl rfl rfl (fun b0_0 w1 hw1 => ?_)
 try clear hw0
 refine l_assign rfl rfl rfl (l_assign rfl rfl rfl (l_assign rfl rfl rfl (l_nil (e_then ?_))))
 refine c_keep [1, 2, 3, 4] (.cons rfl (.cons rfl (.cons rfl (.cons rfl .nil)))) ?_
 refine c_seq (c_region (l_move rfl rfl rfl ?_))
 refine l_max rfl rfl rfl rfl ?_
 refine l_min rfl rfl rfl rfl ?_
 refine l_assign rfl rfl rfl (l_nil (e_then ?_))
 refine c_keep [1, 2, 3, 4] (.cons rfl (.cons rfl (.cons rfl (.cons rfl .nil)))) ?_
 refine c_cutk (ι := Int) (fun (unit : Int) (w' : World) => St w w.heap.size None' ([As.blk b0_0 58 [.int .i64 (d.M : Int), .int .i64 (-(d.l : Int)), .int .i64 (d.A : Int)]]) w' ∧ unit = max (min (max exp (-2500)) 2500 + Ma.blen man - d.M) (-(d.l : Int))) (fun (unit : Int) => [(11, .int .i64 unit)]) [1, 2, 3, 4] (.cons rfl (.cons rfl (.cons rfl (.cons rfl .nil)))) ?_ ?_
 ·skip
  have hw2 := hw1.drewn
  try clear hw1
  refine c_any (n := 11) [false, false, false, false, false, false, false, false, false, false, false] (fun wS => (As.blk b0_0 58 [.int .i64 (d.M : Int), .int .i64 (-(d.l : Int)), .int .i64 (d.A : Int)]).ok wS) (by kernel_rfl) rfl rfl ?_
  apply a_take (L' := [true, false, false, false, false, false, false, false, false, false, false]) 0 rfl (by kernel_rfl) (by kernel_rfl) (by kernel_rfl) rfl rfl rfl rfl rfl (hw2.ok mem0)
  ·intro wS sS
   refine l_move rfl rfl rfl (l_nil ?_)
   exact e_got rfl
  apply a_take (L' := [true, true, false, false, false, false, false, false, false, false, false]) 1 rfl (by kernel_rfl) (by kernel_rfl) (by kernel_rfl) rfl rfl rfl rfl rfl (hw2.ok mem0)
  ·intro wS sS
   refine l_move rfl rfl rfl (l_nil ?_)
   exact e_got rfl
  apply a_take (L' := [true, true, false, false, true, false, false, false, false, false, false]) 4 rfl (by kernel_rfl) (by kernel_rfl) (by kernel_rfl) rfl rfl rfl rfl rfl (hw2.ok mem0)
  ·intro wS sS
   refine l_field fo58_0 rfl rfl rfl (l_nil ?_)
   exact e_got rfl
  apply a_take (L' := [true, true, false, false, true, true, false, false, false, false, false]) 5 rfl (by kernel_rfl) (by kernel_rfl) (by kernel_rfl) rfl rfl rfl rfl rfl (hw2.ok mem0)
  ·intro wS sS
   refine l_load_blk (blk_st sS) mem0 rfl rfl Tryd.underlying3 rfl rfl rfl ?_
   refine l_nil ?_
   exact e_got rfl
  apply a_take (L' := [true, true, false, false, true, true, false, true, false, false, false]) 7 rfl (by kernel_rfl) (by kernel_rfl) (by kernel_rfl) rfl rfl rfl rfl rfl (hw2.ok mem0)
  ·intro wS sS
   refine l_field fo58_1 rfl rfl rfl (l_nil ?_)
   exact e_got rfl
  apply a_take (L' := [true, true, false, false, true, true, false, true, true, false, false]) 8 rfl (by kernel_rfl) (by kernel_rfl) (by kernel_rfl) rfl rfl rfl rfl rfl (hw2.ok mem0)
  ·intro wS sS
   refine l_load_blk (blk_st sS) mem0 rfl rfl Tryd.underlying3 rfl rfl rfl ?_
   refine l_nil ?_
   exact e_got rfl
  refine a_one (L' := [true, true, true, false, true, true, false, true, true, false, false]) 2 (by kernel_rfl) rfl rfl ?_
  refine l_callp rfl rfl Tryd.func77 rfl rfl (.cons rfl .nil) (len64 man hm _) ?_
  refine l_nil ?_
  refine e_any (hw2.ok mem0) ?_
  apply a_take (L' := [true, true, true, true, true, true, false, true, true, false, false]) 3 rfl (by kernel_rfl) (by kernel_rfl) (by kernel_rfl) rfl rfl rfl rfl rfl (hw2.ok mem0)
  ·intro wS sS
   refine l_add rfl rfl rfl rfl (w_i64 (by omega)) ?_
   refine l_nil ?_
   exact e_got rfl
  apply a_take (L' := [true, true, true, true, true, true, true, true, true, false, false]) 6 rfl (by kernel_rfl) (by kernel_rfl) (by kernel_rfl) rfl rfl rfl rfl rfl (hw2.ok mem0)
  ·intro wS sS
   refine l_sub rfl rfl rfl rfl (w_i64 (by omega)) ?_
   refine l_nil ?_
   exact e_got rfl
  refine a_one (L' := [true, true, true, true, true, true, true, true, true, true, false]) 9 (by kernel_rfl) rfl rfl ?_
  refine l_max rfl rfl rfl rfl ?_
  refine l_nil ?_
  refine e_any (hw2.ok mem0) ?_
  apply a_take (L' := [true, true, true, true, true, true, true, true, true, true, true]) 10 rfl (by kernel_rfl) (by kernel_rfl) (by kernel_rfl) rfl rfl rfl rfl rfl (hw2.ok mem0)
  ·intro wS sS
   refine l_assign rfl rfl rfl (l_nil ?_)
   exact e_got rfl
  refine a_done (by kernel_rfl) ?_
  refine e_meetk (max (min (max exp (-2500)) 2500 + Ma.blen man - d.M) (-(d.l : Int))) ?_ (.cons rfl (.cons rfl (.cons rfl (.cons rfl .nil)))) ?_
  ·exact ⟨hw2, rfl⟩
  ·exact (.cons rfl (by first | rfl | (refine congrArg (Value.int _) ?_; omega)) .nil)
 rintro unit w3 ⟨hw3, hun⟩
 have hu36 : 0 ≤ unit + d.l ∧ unit + d.l ≤ 3599 := by
  have : (d.l : Int) - d.M ≤ 1021 := by cases d <;> decide
  omega
 show RunC P _ _ _ (_ :: _) _
 refine c_seq (c_region (l_move rfl rfl rfl (l_move rfl rfl rfl ?_)))
 refine l_sub rfl rfl rfl rfl (w_i64 (by omega)) ?_
 refine l_assign rfl rfl rfl (l_nil (e_then ?_))
 refine c_keep [1, 3, 4, 11, 12] (.cons rfl (.cons rfl (.cons rfl (.cons rfl (.cons rfl .nil))))) ?_
 refine c_seq (c_region (l_move rfl rfl rfl (l_assign rfl rfl rfl (l_assign rfl rfl rfl (l_nil ?_)))))
 refine e_then ?_
 refine c_keep [1, 3, 4, 11, 12, 13, 14] (.cons rfl (.cons rfl (.cons rfl (.cons rfl (.cons rfl (.cons rfl (.cons rfl .nil))))))) ?_
 refine c_cutk (ι := Int × Int × Bool) (fun (z0 : Int × Int × Bool) (w' : World) => match z0 with | ⟨x, rest, s2⟩ => St w w.heap.size None' ([As.blk b0_0 58 [.int .i64 (d.M : Int), .int .i64 (-(d.l : Int)), .int .i64 (d.A : Int)]]) w' ∧ (x, rest, s2) = sw man (unit - min (max exp (-2500)) 2500) some) (fun (z0 : Int × Int × Bool) => match z0 with | ⟨x, rest, s2⟩ => [(3, .bool s2), (13, .int .u64 x), (14, .int .u64 rest)]) [4, 11] (.cons rfl (.cons rfl .nil)) ?_ ?_
 ·skip
  refine c_block (c_seq (c_region (l_move rfl rfl rfl ?_)))
  refine l_lss rfl rfl rfl rfl ?_
  refine l_assign rfl rfl rfl (l_nil (e_then ?_))
  refine c_keep [1, 3, 4, 11, 12, 13, 14, 32] (.cons rfl (.cons rfl (.cons rfl (.cons rfl (.cons rfl (.cons rfl (.cons rfl (.cons rfl .nil)))))))) ?_
  first | refine c_cond rfl (fun hc0 => ?_) (fun hc0 => ?_) | refine c_condb rfl (fun hc0 => ?_) (fun hc0 => ?_)
  ·skip
   refine c_region (l_move rfl rfl rfl (l_move rfl rfl rfl ?_))
   refine l_neg rfl rfl rfl (w_i64 (by omega)) ?_
   refine l_shl rfl rfl rfl rfl (by omega) (shl_t (by omega) (by omega)) ?_
   refine l_assign rfl rfl rfl (l_nil ?_)
   refine e_blk ?_
   refine e_meetk (man * 2 ^ (-(unit - min (max exp (-2500)) 2500)).toNat % 18446744073709551616, 0, some) ?_ (.cons rfl (.cons rfl .nil)) ?_
   ·refine ⟨hw3, ?_⟩
    unfold sw
    rw [if_pos (by assumption)]
   ·exact (.cons rfl (by first | rfl | (refine congrArg (Value.int _) ?_; omega)) (.cons rfl (by first | rfl | (refine congrArg (Value.int _) ?_; omega)) (.cons rfl (by first | rfl | (refine congrArg (Value.int _) ?_; omega)) .nil)))
  ·skip
   refine c_seq (c_region (l_move rfl rfl rfl ?_))
   refine l_gtr rfl rfl rfl rfl ?_
   refine l_assign rfl rfl rfl (l_nil (e_then ?_))
   refine c_keep [1, 3, 4, 11, 12, 13, 14, 39] (.cons rfl (.cons rfl (.cons rfl (.cons rfl (.cons rfl (.cons rfl (.cons rfl (.cons rfl .nil)))))))) ?_
   first | refine c_cond rfl (fun hc1 => ?_) (fun hc1 => ?_) | refine c_condb rfl (fun hc1 => ?_) (fun hc1 => ?_)
   ·skip
    refine c_region (l_assign rfl rfl rfl (l_assign rfl rfl rfl (l_assign rfl rfl rfl (l_nil ?_))))
    refine e_blk ?_
    refine e_meetk (0, 0, true) ?_ (.cons rfl (.cons rfl .nil)) ?_
    ·refine ⟨hw3, ?_⟩
     unfold sw
     rw [if_neg (by assumption), if_pos (by assumption)]
    ·exact (.cons rfl (by first | rfl | (refine congrArg (Value.int _) ?_; omega)) (.cons rfl (by first | rfl | (refine congrArg (Value.int _) ?_; omega)) (.cons rfl (by first | rfl | (refine congrArg (Value.int _) ?_; omega)) .nil)))
   ·skip
    refine c_seq (c_region (l_move rfl rfl rfl ?_))
    refine l_gtr rfl rfl rfl rfl ?_
    refine l_assign rfl rfl rfl (l_nil (e_then ?_))
    refine c_keep [1, 3, 4, 11, 12, 13, 14, 42] (.cons rfl (.cons rfl (.cons rfl (.cons rfl (.cons rfl (.cons rfl (.cons rfl (.cons rfl .nil)))))))) ?_
    first | refine c_cond rfl (fun hc2 => ?_) (fun hc2 => ?_) | refine c_condb rfl (fun hc2 => ?_) (fun hc2 => ?_)
    ·skip
     refine c_seq (c_region (l_move rfl rfl rfl (l_move rfl rfl rfl ?_)))
     refine l_shr rfl rfl rfl rfl (by omega) (shr_t (by omega) (by omega)) ?_
     refine l_assign rfl rfl rfl (l_nil (e_then ?_))
     refine c_keep [1, 3, 4, 11, 12, 13] (.cons rfl (.cons rfl (.cons rfl (.cons rfl (.cons rfl (.cons rfl .nil)))))) ?_
     refine c_region (l_move rfl rfl rfl (l_move rfl rfl rfl ?_))
     refine l_sub rfl rfl rfl rfl (w_i64 (by omega)) ?_
     refine l_shl rfl rfl rfl rfl (by omega) (shl_r (by omega) (by omega)) ?_
     refine l_assign rfl rfl rfl (l_nil ?_)
     refine e_blk ?_
     refine e_meetk (man / 2 ^ (unit - min (max exp (-2500)) 2500).toNat, man * 2 ^ (64 - (unit - min (max exp (-2500)) 2500).toNat) % 18446744073709551616, some) ?_ (.cons rfl (.cons rfl .nil)) ?_
     ·refine ⟨hw3, ?_⟩
      unfold sw
      rw [if_neg (by omega), if_neg (by omega), if_pos (by omega)]
     ·exact (.cons rfl (by first | rfl | (refine congrArg (Value.int _) ?_; omega)) (.cons rfl (by first | rfl | (refine congrArg (Value.int _) ?_; omega)) (.cons rfl (by first | rfl | (refine congrArg (Value.int _) ?_; omega)) .nil)))
    ·skip
     refine c_skip ?_
     refine e_blk ?_
     refine e_meetk (man, 0, some) ?_ (.cons rfl (.cons rfl .nil)) ?_
     ·refine ⟨hw3, ?_⟩
      unfold sw
      rw [if_neg (by omega), if_neg (by omega), if_neg (by omega)]
     ·exact (.cons rfl (by first | rfl | (refine congrArg (Value.int _) ?_; omega)) (.cons rfl (by first | rfl | (refine congrArg (Value.int _) ?_; omega)) (.cons rfl (by first | rfl | (refine congrArg (Value.int _) ?_; omega)) .nil)))
 rintro ⟨x, rest, s2⟩ w4 ⟨hw4, hsw⟩
 have hsb := sw_bd d hm (by omega) hsw
 show RunC P _ _ _ (_ :: _) _
 refine c_cutk (ι := Int) (fun (x1 : Int) (w' : World) => St w w.heap.size None' ([As.blk b0_0 58 [.int .i64 (d.M : Int), .int .i64 (-(d.l : Int)), .int .i64 (d.A : Int)]]) w' ∧ x1 = t1P x rest s2) (fun (x1 : Int) => [(13, .int .u64 x1)]) [3, 4, 11, 14] (.cons rfl (.cons rfl (.cons rfl (.cons rfl .nil)))) ?_ ?_
 ·skip
  refine c_seq (c_region (l_move rfl rfl rfl ?_))
  refine l_gtr rfl rfl rfl rfl ?_
  refine l_move rfl rfl rfl ?_
  apply l_or (q := rest = 9223372036854775808 ∧ (s2 = true ∨ x % 2 = 1)) 10 [3, 4, 11, 13, 14] rfl rfl (.cons rfl (.cons rfl (.cons rfl (.cons rfl (.cons rfl (.cons rfl .nil)))))) rfl rfl (fun _ => rfl) rfl rfl rfl
  ·intro hg12_3
   refine l_move rfl rfl rfl ?_
   refine l_eql rfl rfl rfl rfl ?_
   refine l_move rfl rfl rfl ?_
   apply l_and (q := s2 = true ∨ x % 2 = 1) 6 [3, 4, 11, 13, 14, 54] rfl rfl (.cons rfl (.cons rfl (.cons rfl (.cons rfl (.cons rfl (.cons rfl (.cons rfl .nil))))))) rfl rfl (fun _ => rfl) rfl rfl rfl
   ·intro hg12_6
    refine l_move rfl rfl rfl (l_move rfl rfl rfl ?_)
    refine l_turn (s := 59) (v' := .bool (decide (s2 = true))) rfl (by cases s2 <;> rfl) ?_
    apply l_or (q := x % 2 = 1) 3 [3, 4, 11, 13, 14, 54, 57] rfl rfl (.cons rfl (.cons rfl (.cons rfl (.cons rfl (.cons rfl (.cons rfl (.cons rfl (.cons rfl .nil)))))))) rfl rfl (fun _ => rfl) rfl rfl rfl
    ·intro hg12_8
     refine l_move rfl rfl rfl ?_
     refine l_bits rfl rfl rfl rfl rfl (and_mask 1 (d := 2) (by omega) (by omega) (by decide) (by decide)) ?_
     refine l_eql rfl rfl rfl rfl ?_
     refine l_nil ?_
     exact e_stays rfl (.cons rfl (congrArg Value.bool (decide_eq_false hg12_8).symm) (.cons rfl rfl (.cons rfl rfl (.cons rfl rfl (.cons rfl rfl (.cons rfl rfl (.cons rfl rfl (.cons rfl rfl .nil))))))))
     all_goals infer_instance
    refine l_nil ?_
    exact e_stays rfl (.cons rfl (congrArg Value.bool (decide_eq_true hg12_6).symm) (.cons rfl rfl (.cons rfl rfl (.cons rfl rfl (.cons rfl rfl (.cons rfl rfl (.cons rfl rfl .nil)))))))
    all_goals infer_instance
   refine l_nil ?_
   exact e_stays rfl (.cons rfl (congrArg Value.bool (decide_eq_false hg12_3).symm) (.cons rfl rfl (.cons rfl rfl (.cons rfl rfl (.cons rfl rfl (.cons rfl rfl .nil))))))
   all_goals infer_instance
  refine l_nil (e_then ?_)
  refine c_keep [3, 4, 11, 13, 14, 65] (.cons rfl (.cons rfl (.cons rfl (.cons rfl (.cons rfl (.cons rfl .nil)))))) ?_
  first | refine c_cond rfl (fun hc3 => ?_) (fun hc3 => ?_) | refine c_condb rfl (fun hc3 => ?_) (fun hc3 => ?_)
  ·skip
   refine c_region (l_move rfl rfl rfl ?_)
   refine l_add rfl rfl rfl rfl (w_u64 (by omega)) ?_
   refine l_assign rfl rfl rfl (l_nil ?_)
   refine e_meetk (x + 1) ?_ (.cons rfl (.cons rfl (.cons rfl (.cons rfl .nil)))) ?_
   ·refine ⟨hw4, ?_⟩
    unfold t1P
    rw [if_pos (by assumption)]
   ·exact (.cons rfl (by first | rfl | (refine congrArg (Value.int _) ?_; omega)) .nil)
  ·skip
   refine c_skip ?_
   refine e_meetk (x) ?_ (.cons rfl (.cons rfl (.cons rfl (.cons rfl .nil)))) ?_
   ·refine ⟨hw4, ?_⟩
    unfold t1P
    rw [if_neg (by assumption)]
   ·exact (.cons rfl (by first | rfl | (refine congrArg (Value.int _) ?_; omega)) .nil)
 rintro x1 w5 ⟨hw5, hx1⟩
 have hb1 : 0 ≤ x1 ∧ x1 ≤ 2 * d.H := by rw [hx1]; exact t1_bd ⟨hsb.1, hsb.2.1⟩
 show RunC P _ _ _ (_ :: _) _
 refine c_cutk (ι := Int × Int) (fun (z0 : Int × Int) (w' : World) => match z0 with | ⟨x2, u2⟩ => St w w.heap.size None' ([As.blk b0_0 58 [.int .i64 (d.M : Int), .int .i64 (-(d.l : Int)), .int .i64 (d.A : Int)]]) w' ∧ (x2, u2 + d.l) = t2P d x1 (unit + d.l)) (fun (z0 : Int × Int) => match z0 with | ⟨x2, u2⟩ => [(11, .int .i64 u2), (13, .int .u64 x2)]) [3, 4, 14] (.cons rfl (.cons rfl (.cons rfl .nil))) ?_ ?_
 ·skip
  refine c_seq (c_region (l_move rfl rfl rfl (l_field fo58_0 rfl rfl rfl ?_)))
  refine l_load_blk hw5 mem0 rfl rfl Tryd.underlying3 rfl rfl rfl ?_
  refine l_shr rfl rfl rfl rfl (by omega) (shr_M d hb1.1) ?_
  refine l_eql rfl rfl rfl rfl ?_
  refine l_nil (e_then ?_)
  refine c_keep [3, 4, 11, 13, 14, 72] (.cons rfl (.cons rfl (.cons rfl (.cons rfl (.cons rfl (.cons rfl .nil)))))) ?_
  first | refine c_cond rfl (fun hc4 => ?_) (fun hc4 => ?_) | refine c_condb rfl (fun hc4 => ?_) (fun hc4 => ?_)
  ·skip
   refine c_seq (c_region (l_move rfl rfl rfl ?_))
   refine l_shr rfl rfl rfl rfl (by omega) (shr_eq (d := 2) (by decide) (by decide)) ?_
   refine l_assign rfl rfl rfl (l_nil (e_then ?_))
   refine c_keep [3, 4, 11, 13, 14] (.cons rfl (.cons rfl (.cons rfl (.cons rfl (.cons rfl .nil))))) ?_
   refine c_region (l_move rfl rfl rfl ?_)
   refine l_add rfl rfl rfl rfl (w_i64 (by omega)) ?_
   refine l_assign rfl rfl rfl (l_nil ?_)
   refine e_meetk (x1 / 2, unit + 1) ?_ (.cons rfl (.cons rfl (.cons rfl .nil))) ?_
   ·refine ⟨hw5, ?_⟩
    unfold t2P
    rw [if_pos (by assumption)]
    congr 1
    omega
   ·exact (.cons rfl (by first | rfl | (refine congrArg (Value.int _) ?_; omega)) (.cons rfl (by first | rfl | (refine congrArg (Value.int _) ?_; omega)) .nil))
  ·skip
   refine c_skip ?_
   refine e_meetk (x1, unit) ?_ (.cons rfl (.cons rfl (.cons rfl .nil))) ?_
   ·refine ⟨hw5, ?_⟩
    unfold t2P
    rw [if_neg (by assumption)]
   ·exact (.cons rfl (by first | rfl | (refine congrArg (Value.int _) ?_; omega)) (.cons rfl (by first | rfl | (refine congrArg (Value.int _) ?_; omega)) .nil))
 rintro ⟨x2, u2⟩ w6 ⟨hw6, hx2⟩
 have hb2 : 0 ≤ x2 ∧ x2 ≤ 2 * d.H ∧ unit + d.l ≤ u2 + d.l ∧ u2 + d.l ≤ unit + d.l + 1 := by
  have := t2_bd d hb1 (u := unit + d.l) hu36.1
  rw [← hx2] at this
  exact this
 have hub := t3_mul d (u := u2 + d.l) (by omega)
 have hus : u2 - -(d.l : Int) = u2 + d.l := by omega
 have hH53 : d.H ≤ 4503599627370496 := by cases d <;> decide
 show RunC P _ _ _ (_ :: _) _
 refine c_cutk (ι := Int) (fun (x3 : Int) (w' : World) => St w w.heap.size None' ([As.blk b0_0 58 [.int .i64 (d.M : Int), .int .i64 (-(d.l : Int)), .int .i64 (d.A : Int)]]) w' ∧ x3 = t3P d (x2, u2 + d.l)) (fun (x3 : Int) => [(13, .int .u64 x3)]) [3, 4, 14] (.cons rfl (.cons rfl (.cons rfl .nil))) ?_ ?_
 ·skip
  refine c_seq (c_region (l_move rfl rfl rfl (l_field fo58_0 rfl rfl rfl ?_)))
  refine l_load_blk hw6 mem0 rfl rfl Tryd.underlying3 rfl rfl rfl ?_
  refine l_sub rfl rfl rfl rfl (w_i64 (by omega)) ?_
  refine l_shr rfl rfl rfl rfl (by omega) (shr_H d hb2.1) ?_
  refine l_eql rfl rfl rfl rfl ?_
  refine l_nil (e_then ?_)
  refine c_keep [3, 4, 11, 13, 14, 82] (.cons rfl (.cons rfl (.cons rfl (.cons rfl (.cons rfl (.cons rfl .nil)))))) ?_
  first | refine c_cond rfl (fun hc5 => ?_) (fun hc5 => ?_) | refine c_condb rfl (fun hc5 => ?_) (fun hc5 => ?_)
  ·skip
   refine c_region (l_move rfl rfl rfl (l_move rfl rfl rfl (l_field fo58_1 rfl rfl rfl ?_)))
   refine l_load_blk hw6 mem0 rfl rfl Tryd.underlying3 rfl rfl rfl ?_
   refine l_sub rfl rfl rfl rfl (w_i64 (by omega)) ?_
   refine l_conv rfl rfl Tryd.underlying3 Tryd.underlying22 rfl (w_u64 (by omega)) ?_
   refine l_field fo58_0 rfl rfl rfl ?_
   refine l_load_blk hw6 mem0 rfl rfl Tryd.underlying3 rfl rfl rfl ?_
   refine l_sub rfl rfl rfl rfl (w_i64 (by omega)) ?_
   refine l_shl rfl rfl rfl rfl (by omega) (shl_H d (by rw [hus]; omega)) ?_
   refine l_add rfl rfl rfl rfl (w_u64 (by rw [hus]; omega)) ?_
   refine l_assign rfl rfl rfl (l_nil ?_)
   refine e_meetk (x2 + (u2 - -(d.l : Int)) * d.H) ?_ (.cons rfl (.cons rfl (.cons rfl .nil))) ?_
   ·refine ⟨hw6, ?_⟩
    unfold t3P
    rw [if_pos (by assumption), hus]
   ·exact (.cons rfl (by first | rfl | (refine congrArg (Value.int _) ?_; omega)) .nil)
  ·skip
   refine c_skip ?_
   refine e_meetk (x2) ?_ (.cons rfl (.cons rfl (.cons rfl .nil))) ?_
   ·refine ⟨hw6, ?_⟩
    unfold t3P
    rw [if_neg (by assumption)]
   ·exact (.cons rfl (by first | rfl | (refine congrArg (Value.int _) ?_; omega)) .nil)
 rintro x3 w7 ⟨hw7, hx3⟩
 show RunC P _ _ _ (_ :: _) _
 refine c_seq (c_seq (c_region (l_move rfl rfl rfl ?_)))
 refine l_load_agg hw7 mem0 rfl rfl Tryd.underlying58 rfl tz58 rfl (.take (.take (.take .nil))) ?_
 refine l_call rfl rfl Tryd.func30 rfl rfl (.cons rfl .nil) (infB d w7) ?_
 rintro _ w8 ⟨rfl, hG⟩
 have hw8 := hG _ _ _ _ hw7
 try clear hG hw7
 simp only [List.cons_append, List.nil_append] at hw8
 refine l_geq rfl rfl rfl rfl ?_
 refine l_nil (e_then ?_)
 refine c_keep [3, 13, 14, 97] (.cons rfl (.cons rfl (.cons rfl (.cons rfl .nil)))) ?_
 first | refine c_cond rfl (fun hc6 => ?_) (fun hc6 => ?_) | refine c_condb rfl (fun hc6 => ?_) (fun hc6 => ?_)
 ·skip
  refine c_seq (c_region (l_assign rfl rfl rfl (l_assign rfl rfl rfl (l_assign rfl rfl rfl (l_nil ?_)))))
  refine e_then ?_
  refine c_keep [8, 9, 10] (.cons rfl (.cons rfl (.cons rfl .nil))) ?_
  refine c_ret ?_
  refine e_then_ret ?_
  refine e_doneN Tryd.results76 (.tmp rfl (.tmp rfl (.tmp rfl .nil))) rfl ?_
  refine ⟨_, rfl, ?_⟩
  have hw9 := St.del .head hw8
  try clear hw8
  refine ⟨?_, hw9.grows⟩
  rw [packF_eq d man exp some rfl hun hsw, tailP_eq, ← hx1, ← hx2, ← hx3, if_pos (by assumption)]
 ·skip
  refine c_skip (e_then ?_)
  refine c_keep [3, 13, 14] (.cons rfl (.cons rfl (.cons rfl .nil))) ?_
  refine c_seq (c_region (l_move rfl rfl rfl (l_move rfl rfl rfl ?_)))
  refine l_eql rfl rfl rfl rfl ?_
  refine l_move rfl rfl rfl ?_
  apply l_and 2 [98] rfl rfl (.cons rfl (.cons rfl .nil)) rfl rfl (fun _ => rfl) rfl rfl rfl
  ·intro hg21_4
   refine l_turn (s := 3) (v' := .bool (decide (s2 = true))) rfl (by cases s2 <;> rfl) ?_
   refine l_move rfl rfl rfl ?_
   first | refine l_notd rfl rfl rfl ?_ | refine l_not rfl rfl rfl ?_
   refine l_nil ?_
   exact e_stays rfl (.cons rfl (congrArg Value.bool (decide_eq_true hg21_4).symm) (.cons rfl rfl .nil))
   all_goals infer_instance
  refine l_assign rfl rfl rfl (l_assign rfl rfl rfl (l_assign rfl rfl rfl (l_nil (e_then ?_))))
  refine c_keep [8, 9, 10] (.cons rfl (.cons rfl (.cons rfl .nil))) ?_
  refine c_ret ?_
  refine e_doneN Tryd.results76 (.tmp rfl (.tmp rfl (.tmp rfl .nil))) rfl ?_
  refine ⟨_, rfl, ?_⟩
  have hw10 := St.del .head hw8
  try clear hw8
  refine ⟨?_, hw10.grows⟩
  rw [packF_eq d man exp some rfl hun hsw, tailP_eq, ← hx1, ← hx2, ← hx3, if_neg (by assumption)]
  all_goals simp
theorem or_one {x b : Int} (hb : 0 ≤ b ∧ b ≤ 1) : bitw .or .u64 b (x * 2 % 18446744073709551616) = b + x * 2 % 18446744073709551616 := by
 have h1 := or_low (x := x) (b := b) (k := 1) (by omega) ⟨hb.1, by show b < 2; omega⟩
 rw [← shl_low (by omega)] at h1
 exact h1
theorem or_1 {m : Int} (hm : 0 ≤ m ∧ m ≤ 9223372036854775807) : bitw .or .u64 (m * 2) 1 = m * 2 + 1 := or_add (a := m) (b := 1) 1 (by omega) ⟨hm.1, by show m * 2 ≤ _; omega⟩ ⟨by omega, by decide⟩
theorem lenV {v : Value} {l : List Int} (hU : U l) (hL : l.length ≤ 17592186044416) {w : World} (hv : IV w v (ints .u64 l)) : CallsV P 67 [v] w fun r w' => r = .int .i64 (Ma.blen (nv l)) ∧ w = w' := by
 obtain ⟨A, c, rfl, hc, hs⟩ := hv
 exact lenN A c l hU hL w ⟨A, c, rfl, hc, hs⟩
theorem twice_step {p V A x o : Int} (h : V = 2 * A) : V + p * ((o + x * 2 % 18446744073709551616) - o) + p * 18446744073709551616 * (x / 9223372036854775808) = 2 * (A + p * x) := by
 have e : x * 2 % 18446744073709551616 + 18446744073709551616 * (x / 9223372036854775808) = 2 * x := by omega
 rw [show o + x * 2 % 18446744073709551616 - o = x * 2 % 18446744073709551616 from by omega, Int.mul_assoc p, Int.add_assoc, ← Int.mul_add, e, h, Int.mul_add, Int.mul_left_comm]
theorem cn_len64 {l : List Int} {n : Int} (h : Ma.Cn 18446744073709551616 l n) {k : Nat} (hb : Ma.blen n ≤ k) : 64 * l.length ≤ k + 64 := by
 rcases Nat.eq_zero_or_pos l.length with h0 | h0
 ·omega
 ·have := Ma.blen_top (s := 64) h.dg h.tr h0
  rw [show ((2 : Int) ^ 64) = 18446744073709551616 from rfl, h.val] at this
  have := Ma.blen_nonneg (l.getD (l.length - 1) 0)
  omega
theorem twiceB (v : Value) (l : List Int) (hU : U l) (hL : l.length ≤ 17592186044416) (w : World) (hv : IV w v (ints .u64 l)) :
  CallsV P 86 [v] w fun r w' => ∃ v ls, r = v ∧ U ls ∧ ls.length = l.length + 1 ∧ nv ls = 2 * nv l ∧ Grow w w' [As.ri 22 .u64 v ls] := by
 refine enterW Tryd.func86 rfl Tryd.ntmps86 rfl ?_
 have hw0 := St.start w
 refine c_seq (c_region (l_assign rfl rfl rfl (l_nil (e_then ?_))))
 refine c_keep [0] (.cons rfl .nil) ?_
 refine c_seq (c_region (l_move rfl rfl rfl ?_))
 refine v_leni rfl rfl Tryd.underlying62 rfl (by first | exact hw0.iarg hv | assumption) ?_
 refine l_add rfl rfl rfl rfl (w_i64 (by omega)) ?_
 refine v_make (m := l.length + 1) (c := l.length + 1) hw0 rfl rfl Tryd.underlying62 ti22 rfl rfl rfl (by omega) (by omega) (by omega) (by omega) (by omega) (fun v1_3 w1 hw1 => ?_)
 try clear hw0
 refine l_assign rfl rfl rfl (l_nil (e_then ?_))
 refine c_keep [0, 3] (.cons rfl (.cons rfl .nil)) ?_
 refine c_seq (c_seq (c_region ?_))
 have hw2z := hw1.cast (show [As.ro 22 v1_3 (List.replicate (l.length + 1) (Value.int IntKind.u64 0))] = [As.ri 22 .u64 v1_3 (List.replicate (l.length + 1) 0)] from by rw [ints_replicate])
 refine l_move rfl rfl rfl ?_
 refine v_leni rfl rfl Tryd.underlying62 rfl (by first | exact hw1.io mem0 | exact hw1.iarg hv | assumption) ?_
 refine l_move rfl rfl rfl (l_nil (e_then ?_))
 refine c_keep [3, 10, 11, 12] (.cons rfl (.cons rfl (.cons rfl (.cons rfl .nil)))) ?_
 refine c_block ?_
 refine c_loopk (ι := Nat × List Int) (fun (z0 : Nat × List Int) => match z0 with | ⟨i, o⟩ => l.length - i) (fun (z0 : Nat × List Int) (w' : World) => match z0 with | ⟨i, o⟩ => St w w.heap.size None' ([As.ri 22 .u64 v1_3 o]) w' ∧ i ≤ l.length ∧ o.length = l.length + 1 ∧ U o ∧ nv o = 2 * nv (l.take i) ∧ 0 ≤ o.getD i 0 ∧ o.getD i 0 ≤ 1 ∧ (∀ j, i < j → o.getD j 0 = 0)) (fun (z0 : Nat × List Int) => match z0 with | ⟨i, o⟩ => [(12, .int .i64 (i : Int))]) [3, 10, 11] (0, List.replicate (l.length + 1) 0) ?_ (.cons rfl (.cons rfl (.cons rfl .nil))) ?_ ?_
 ·exact ⟨hw2z, by omega, by simp, U.zeros _, by rw [List.take_zero]; show Ma.vb _ _ = 2 * Ma.vb _ _; rw [Ma.vb_zeros]; rfl, by rw [getD_rep]; omega, by rw [getD_rep]; omega, fun j _ => getD_rep _ j⟩
 ·exact (.cons rfl (by first | rfl | (refine congrArg (Value.int _) ?_; omega)) .nil)
 rintro ⟨i, o⟩ w2 ⟨hw2, hi, hol, hUo, hval, hoi, hoi1, hoz⟩
 show RunC P _ _ _ (_ :: _) _
 refine c_seq (c_region ?_)
 refine l_lss rfl rfl rfl rfl ?_
 refine l_nil (e_then (c_seq ?_))
 first | refine c_cond rfl (fun hc0 => ?_) (fun hc0 => ?_) | refine c_condb rfl (fun hc0 => ?_) (fun hc0 => ?_)
 ·skip
  refine c_skip (e_then ?_)
  refine c_keep [3, 10, 11, 12] (.cons rfl (.cons rfl (.cons rfl (.cons rfl .nil)))) ?_
  refine c_seq (c_block (c_seq (c_region (l_move rfl rfl rfl ?_))))
  refine v_getr (j := i) rfl rfl rfl rfl Tryd.underlying62 tz22 Tryd.underlying22 rfl rfl (by first | exact hw2.io mem0 | exact hw2.iarg hv | assumption) (by assumption) rfl (by omega) (by first | omega | (simp; done) | (simp; omega)) (fun hb4_1 => ?_)
  refine l_assign rfl rfl rfl (l_assign rfl rfl rfl (l_nil (e_then ?_)))
  refine c_keep [3, 4, 5, 10, 11, 12] (.cons rfl (.cons rfl (.cons rfl (.cons rfl (.cons rfl (.cons rfl .nil)))))) ?_
  refine c_seq (c_region (l_move rfl rfl rfl (l_move rfl rfl rfl ?_)))
  refine v_getr (j := i) rfl rfl rfl rfl Tryd.underlying62 tz22 Tryd.underlying22 rfl rfl (by first | exact hw2.io mem0 | exact hw2.iarg hv | assumption) (by assumption) rfl (by omega) (by first | omega | (simp; done) | (simp; omega)) (fun hb5_2 => ?_)
  refine l_move rfl rfl rfl ?_
  refine l_shl rfl rfl rfl rfl (by omega) (shl_eq (d := 2) (by decide) (w_u64m _)) ?_
  refine l_bits rfl rfl rfl rfl rfl (or_one ⟨hoi, hoi1⟩) ?_
  refine v_addrn (j := i) rfl rfl Tryd.underlying62 tz22 rfl rfl (by first | exact hw2.io mem0 | exact hw2.iarg hv | assumption) (by omega) (by first | omega | (simp; done) | (simp; omega)) (fun A5_7 c5_7 hA5_7 => ?_)
  refine v_storei hw2 .head hA5_7 rfl tz22 rfl rfl (by first | omega | (simp; done) | (simp; omega)) (fun w3 hw3 => ?_)
  try clear hw2
  refine l_nil (e_then ?_)
  refine c_keep [3, 4, 5, 10, 11, 12] (.cons rfl (.cons rfl (.cons rfl (.cons rfl (.cons rfl (.cons rfl .nil)))))) ?_
  refine c_region (l_move rfl rfl rfl (l_move rfl rfl rfl ?_))
  refine l_add rfl rfl rfl rfl (w_i64 (by omega)) ?_
  refine l_move rfl rfl rfl ?_
  refine l_shr rfl rfl rfl rfl (by omega) (shr_eq (d := 9223372036854775808) (by decide) (by decide)) ?_
  refine v_addrn (j := i + 1) rfl rfl Tryd.underlying62 tz22 rfl rfl (by first | exact hw3.io mem0 | exact hw3.iarg hv | assumption) (by omega) (by first | omega | (simp; done) | (simp; omega)) (fun A6_5 c6_5 hA6_5 => ?_)
  refine v_storei hw3 .head hA6_5 rfl tz22 rfl rfl (by first | omega | (simp; done) | (simp; omega)) (fun w4 hw4 => ?_)
  try clear hw3
  refine l_nil ?_
  refine e_blk ?_
  refine e_then ?_
  refine c_keep [3, 10, 11, 12] (.cons rfl (.cons rfl (.cons rfl (.cons rfl .nil)))) ?_
  refine c_region ?_
  refine l_add rfl rfl rfl rfl (w_i64 (by omega)) ?_
  refine l_move rfl rfl rfl (l_nil ?_)
  refine e_againk (i := (i, o)) (i + 1, (o.set i (o.getD i 0 + l.getD i 0 * 2 % 18446744073709551616)).set (i + 1) (l.getD i 0 / 9223372036854775808)) ?_ ?_ (.cons rfl (.cons rfl (.cons rfl .nil))) ?_
  ·first | omega | (simp; omega)
  ·have hgx := getD_u hU i
   have hst := set_top (l := o) 0 i (o.getD i 0 + l.getD i 0 * 2 % 18446744073709551616) (l.getD i 0 / 9223372036854775808) (by omega) (by rw [Nat.zero_add]; exact hoz _ (by omega))
   rw [Nat.zero_add] at hst
   refine ⟨hw4, by omega, by simpa using hol, (hUo.set (by omega) _).set (by omega) _, ?_, ?_, ?_, fun j hj => ?_⟩
   ·rw [hst, show nv (l.take (i + 1)) = nv (l.take i) + 18446744073709551616 ^ i * l.getD i 0 from Ma.vb_take_succ _ _ _]
    exact twice_step hval
   ·rw [getD_set _ _ _ _ _ (by simp; omega), if_pos rfl]; omega
   ·rw [getD_set _ _ _ _ _ (by simp; omega), if_pos rfl]; omega
   ·rw [getD_set_ne _ (by omega), getD_set_ne _ (by omega)]; exact hoz j (by omega)
  ·exact (.cons rfl (by first | rfl | (refine congrArg (Value.int _) ?_; omega)) .nil)
 ·skip
  refine c_exit ?_
  refine e_then_exit ?_
  refine e_then_exit ?_
  refine e_blk_exit ?_
  refine e_then ?_
  refine c_keep [3] (.cons rfl .nil) ?_
  refine c_seq (c_region (l_move rfl rfl rfl (l_assign rfl rfl rfl (l_nil (e_then ?_)))))
  refine c_keep [2] (.cons rfl .nil) ?_
  refine c_ret ?_
  refine e_done1 Tryd.results86 rfl ?_
  refine ⟨_, rfl, ?_⟩
  obtain rfl : i = l.length := by omega
  rw [List.take_length] at hval
  exact ⟨_, _, rfl, hUo, hol, hval, hw2.grows⟩
theorem RndR.zero {H G D : Int} (hH : 1 < H) (hG : 0 < G) (hGo : G % 2 = 1) (hD : 0 < D) : RndR H G 0 D (0, true, 0) := by
 have e0 := fv_zero (H := H) (by omega)
 have e1 : fv H (0 + 1) = 1 := by unfold fv; rw [if_pos (by omega)]; rfl
 have hu : ¬ upR H 0 D 0 := by unfold upR; rw [e0, e1]; omega
 have := RndR.of (H := H) (G := G) (N := 0) (D := D) (b0 := 0) (by omega) hD (by omega) hGo (by omega) (by rw [e0]; omega) (by rw [e1]; omega)
 rw [if_neg hu, if_pos (by omega), e0, decide_eq_true (by omega)] at this
 exact this
theorem RndR.bd {H G N D : Int} {t : Int × Bool × Int} (hG : 0 ≤ G) (h : RndR H G N D t) : 0 ≤ t.1 ∧ t.1 ≤ G + 1 ∧ (t.2.2 = 0 ∨ t.2.2 = 34) := by
 rcases h with ⟨_, rfl⟩ | ⟨_, b0, h0, h1, _, _, rfl⟩
 ·exact ⟨by decide, by show (0 : Int) ≤ G + 1; omega, .inr rfl⟩
 ·by_cases hu : upR H N D b0
  ·rw [if_pos hu]; exact ⟨by show 0 ≤ b0 + 1; omega, by show b0 + 1 ≤ G + 1; omega, .inl rfl⟩
  ·rw [if_neg hu]; exact ⟨h0, by show b0 ≤ G + 1; omega, .inl rfl⟩
def sgR (d : Kd) (neg : Bool) (t : Int × Bool × Int) : Int × Bool × Int := if t.2.2 = 0 then (if neg then t.1 + d.S else t.1, t.2.1, 0) else (0, false, t.2.2)
def RoundR (k : Int) (neg : Bool) (x y : Int) (r : Int × Bool × Int) : Prop := match kd k with
 | none => r = (0, false, 30)
 | some d => if 8192 < Ma.blen x ∨ 8192 < Ma.blen y then r = (0, false, 21) else if y = 0 then r = (0, false, 33) else ∃ t, RndR d.H (d.I - 1) (x * 2 ^ d.l) y t ∧ r = sgR d neg t
theorem RoundR.unique {k : Int} {neg : Bool} {x y : Int} {r s : Int × Bool × Int} (hy : 0 ≤ y) (h : RoundR k neg x y r) (g : RoundR k neg x y s) : r = s := by
 unfold RoundR at h g
 cases hk : kd k with
 | none => simp only [hk] at h g; rw [h, g]
 | some d =>
  simp only [hk] at h g
  by_cases h1 : 8192 < Ma.blen x ∨ 8192 < Ma.blen y
  ·rw [if_pos h1] at h g; rw [h, g]
  ·rw [if_neg h1] at h g
   by_cases h2 : y = 0
   ·rw [if_pos h2] at h g; rw [h, g]
   ·rw [if_neg h2] at h g
    obtain ⟨t, ht, rfl⟩ := h
    obtain ⟨u, hu, rfl⟩ := g
    rw [ht.unique d.hH0 (by omega) hu]
def JoinR (k : Int) (neg : Bool) (man exp : Int) (r : Int × Bool × Int) : Prop := match kd k with
 | none => r = (0, false, 30)
 | some d => ∃ t, RndR d.H (d.I - 1) (man * 2 ^ (max (min exp 2000) (-2000)).toNat * 2 ^ d.l) (2 ^ (-(max (min exp 2000) (-2000))).toNat) t ∧ r = sgR d neg t
theorem JoinR.unique {k : Int} {neg : Bool} {m e : Int} {r s : Int × Bool × Int} (h : JoinR k neg m e r) (g : JoinR k neg m e s) : r = s := by
 unfold JoinR at h g
 cases hk : kd k with
 | none => simp only [hk] at h g; rw [h, g]
 | some d =>
  simp only [hk] at h g
  obtain ⟨t, ht, rfl⟩ := h
  obtain ⟨u, hu, rfl⟩ := g
  rw [ht.unique d.hH0 (p2 _) hu]
theorem shlS_ok {x n : Int} (hx : Ma.blen x ≤ 8192) (hn : 0 ≤ n) (h : Ma.blen x + n ≤ 8192) : shlS x n = (0, x * 2 ^ n.toNat) := by
 unfold shlS
 rw [if_neg (by omega), if_neg (by omega)]
 split
 ·rename_i h0; rw [h0, Int.zero_mul]
 ·rw [if_neg (by omega)]
theorem ratio_end {n0 dn man n : Int} (hd : 0 < dn) (h : n0 * 18446744073709551616 = man * (2 * dn) + n) (hn : 0 ≤ n ∧ n < 2 * dn) (h2 : dn < 2 * n0) : (n0 * 2 ^ 63 = man * dn + n / 2) ∧ 0 ≤ n / 2 ∧ n / 2 < dn ∧ (0 < n ↔ 0 < n / 2) ∧ 2 ^ 62 ≤ man := by
 rw [show (2 : Int) ^ 63 = 9223372036854775808 by rfl, show (2 : Int) ^ 62 = 4611686018427387904 by rfl]
 have e : man * (2 * dn) = 2 * (man * dn) := Int.mul_left_comm ..
 rw [e] at h
 refine ⟨by omega, by omega, by omega, by omega, ?_⟩
 have h3 : dn * 4611686018427387904 < (man + 1) * dn := by rw [Int.add_mul]; omega
 rw [Int.mul_comm dn] at h3
 have := Int.lt_of_mul_lt_mul_right h3 (Int.le_of_lt hd)
 omega
theorem ratio_step0 {n0 dn man n : Int} {i : Nat} (h : n0 * 2 ^ i = man * (2 * dn) + n) : n0 * 2 ^ (i + 1) = man * 2 * (2 * dn) + 2 * n := by
 rw [Int.pow_succ, ← Int.mul_assoc, h, Int.add_mul, Int.mul_right_comm man, Int.mul_comm n]
theorem ratio_step1 {n0 dn man n : Int} {i : Nat} (h : n0 * 2 ^ i = man * (2 * dn) + n) : n0 * 2 ^ (i + 1) = (man * 2 + 1) * (2 * dn) + 2 * (n - dn) := by
 rw [ratio_step0 h, Int.add_mul (man * 2), Int.one_mul]; omega
theorem ratioB (va vb : Value) (la lb : List Int) (hUa : U la) (hUb : U lb) (hLa : la.length ≤ 68719476736) (hLb : lb.length ≤ 68719476736) (ha0 : 0 < nv la) (hb0 : 0 < nv lb) (hba : Ma.blen (nv la) ≤ 8192) (hbb : Ma.blen (nv lb) ≤ 8192) (w : World) (ha : IV w va (ints .u64 la)) (hb : IV w vb (ints .u64 lb)) :
  CallsV P 78 [va, vb] w fun r w' => ∃ man exp some, r = .tuple #[.int .u64 man, .int .i64 exp, .bool some] ∧ (0 ≤ man ∧ man ≤ 18446744073709551615) ∧ (-20000 ≤ exp ∧ exp ≤ 20000) ∧ (∀ d : Kd, RndR d.H (d.I - 1) (nv la * 2 ^ d.l) (nv lb) (packF d man exp some)) ∧ Grow w w' [] := by
 refine enterW Tryd.func78 rfl Tryd.ntmps78 rfl ?_
 have hw0 := St.start w
 have hbp := Ma.blen_pos ha0
 have hbq := Ma.blen_pos hb0
 refine c_seq (c_region (l_assign rfl rfl rfl (l_assign rfl rfl rfl (l_assign rfl rfl rfl (l_nil ?_)))))
 refine e_then ?_
 refine c_keep [0, 1, 4] (.cons rfl (.cons rfl (.cons rfl .nil))) ?_
 refine c_seq (c_region (l_move rfl rfl rfl ?_))
 refine l_callp rfl rfl Tryd.func67 rfl rfl (.cons rfl .nil) (lenV hUa (by omega) (hw0.iarg ha)) ?_
 refine l_move rfl rfl rfl ?_
 refine l_callp rfl rfl Tryd.func67 rfl rfl (.cons rfl .nil) (lenV hUb (by omega) (hw0.iarg hb)) ?_
 refine l_sub rfl rfl rfl rfl (w_i64 (by omega)) ?_
 refine l_assign rfl rfl rfl (l_nil (e_then ?_))
 refine c_keep [0, 1, 4, 5] (.cons rfl (.cons rfl (.cons rfl (.cons rfl .nil)))) ?_
 refine c_seq (c_region (l_move rfl rfl rfl (l_move rfl rfl rfl ?_)))
 refine l_neg rfl rfl rfl (w_i64 (by omega)) ?_
 refine l_max rfl rfl rfl rfl ?_
 refine l_call rfl rfl Tryd.func52 rfl rfl (.cons rfl (.cons rfl .nil)) (ShlN va la hUa hLa _ w (hw0.iarg ha)) ?_
 rintro _ w1 ⟨vn0, ln0, rfl, hcn0, hG⟩
 have hw1 := hG _ _ _ _ hw0
 try clear hG hw0
 simp only [List.cons_append, List.nil_append] at hw1
 rw [shlS_ok hba (by omega) (by omega)] at hcn0
 refine l_move rfl rfl rfl (l_extract rfl rfl rfl rfl (l_extract rfl rfl rfl rfl (l_assign rfl rfl rfl (l_nil (e_then ?_)))))
 refine c_keep [0, 1, 4, 5] (.cons rfl (.cons rfl (.cons rfl (.cons rfl .nil)))) ?_
 refine c_seq (c_region (l_move rfl rfl rfl (l_move rfl rfl rfl ?_)))
 refine l_max rfl rfl rfl rfl ?_
 refine l_call rfl rfl Tryd.func52 rfl rfl (.cons rfl (.cons rfl .nil)) (ShlN vb lb hUb hLb _ w1 (hw1.iarg hb)) ?_
 rintro _ w2 ⟨vd, ld, rfl, hcd, hG⟩
 have hw2 := hG _ _ _ _ hw1
 try clear hG hw1
 simp only [List.cons_append, List.nil_append] at hw2
 rw [shlS_ok hbb (by omega) (by omega)] at hcd
 refine l_move rfl rfl rfl (l_extract rfl rfl rfl rfl (l_extract rfl rfl rfl rfl (l_assign rfl rfl rfl (l_nil (e_then ?_)))))
 refine c_keep [0, 1, 4, 5] (.cons rfl (.cons rfl (.cons rfl (.cons rfl .nil)))) ?_
 refine c_seq (c_seq (c_region ?_))
 obtain ⟨n0, hn0⟩ : ∃ n0, n0 = nv la * 2 ^ (max (0 - (Ma.blen (nv la) - Ma.blen (nv lb))) 0).toNat := ⟨_, rfl⟩
 obtain ⟨dn, hdn⟩ : ∃ dn, dn = nv lb * 2 ^ (max (Ma.blen (nv la) - Ma.blen (nv lb)) 0).toNat := ⟨_, rfl⟩
 simp only at hcn0 hcd
 rw [← hn0] at hcn0
 rw [← hdn] at hcd
 have hn0p : 0 < n0 := by rw [hn0]; exact Int.mul_pos ha0 (p2 _)
 have hdnp : 0 < dn := by rw [hdn]; exact Int.mul_pos hb0 (p2 _)
 have hbn : Ma.blen n0 = max (Ma.blen (nv la)) (Ma.blen (nv lb)) := by rw [hn0, blen_shl ha0]; omega
 have hbd : Ma.blen dn = max (Ma.blen (nv la)) (Ma.blen (nv lb)) := by rw [hdn, blen_shl hb0]; omega
 have hvn0 : nv ln0 = n0 := hcn0.val
 obtain ⟨kb, hkb, hkb1, hkb2⟩ := Ma.blen_spec hn0p
 obtain ⟨kd, hkd, hkd1, hkd2⟩ := Ma.blen_spec hdnp
 obtain rfl : kd = kb := by omega
 rw [Int.pow_succ] at hkb2 hkd2
 have hln0 := cn_len64 hcn0 (k := 8192) (by omega)
 have hld := cn_len64 hcd (k := 8192) (by omega)
 have hw3 := St.frontL (l := [_]) hw2
 simp only [List.cons_append, List.nil_append] at hw3
 try clear hw2
 refine l_move rfl rfl rfl (l_nil (e_then (c_block ?_)))
 refine c_loopk (ι := Nat × Int × Value × List Int) (fun (z0 : Nat × Int × Value × List Int) => match z0 with | ⟨i, man, vn, ln⟩ => 64 - i) (fun (z0 : Nat × Int × Value × List Int) (w' : World) => match z0 with | ⟨i, man, vn, ln⟩ => St w w.heap.size None' ([As.ri 22 .u64 vn ln, As.ri 22 .u64 vd ld]) w' ∧ i ≤ 64 ∧ U ln ∧ ln.length ≤ 200 + i ∧ 0 ≤ nv ln ∧ nv ln < 2 * dn ∧ n0 * 2 ^ i = man * (2 * dn) + nv ln ∧ 0 ≤ man ∧ man < 2 ^ i) (fun (z0 : Nat × Int × Value × List Int) => match z0 with | ⟨i, man, vn, ln⟩ => [(0, vn), (4, .int .u64 man), (29, .int .i64 (i : Int))]) [1, 5] (0, 0, vn0, ln0) ?_ (.cons rfl (.cons rfl .nil)) ?_ ?_
 ·exact ⟨hw3, by omega, U.of_dg hcn0.dg, by omega, by omega, by omega, by rw [hvn0]; simp, by omega, by decide⟩
 ·exact (.cons rfl (by first | rfl | (refine congrArg (Value.int _) ?_; omega)) (.cons rfl (by first | rfl | (refine congrArg (Value.int _) ?_; omega)) (.cons rfl (by first | rfl | (refine congrArg (Value.int _) ?_; omega)) .nil)))
 rintro ⟨i, man, vn, ln⟩ w4 ⟨hw4, hi, hUn, hln, hnn, hn2d, hiv, hm0, hmi⟩
 show RunC P _ _ _ (_ :: _) _
 have h63i : i < 64 → man ≤ 9223372036854775807 := fun h => by
  have := Ma.pow_mono (show (1 : Int) ≤ 2 by omega) (show i ≤ 63 by omega)
  rw [show (2 : Int) ^ 63 = 9223372036854775808 by rfl] at this
  omega
 have hvd : nv ld = dn := hcd.val
 have h63 := Ma.pow_mono (show (1 : Int) ≤ 2 by omega) (show i ≤ 64 by omega)
 refine c_seq (c_region ?_)
 refine l_lss rfl rfl rfl rfl ?_
 refine l_nil (e_then (c_seq ?_))
 first | refine c_cond rfl (fun hc0 => ?_) (fun hc0 => ?_) | refine c_condb rfl (fun hc0 => ?_) (fun hc0 => ?_)
 ·skip
  refine c_skip (e_then ?_)
  refine c_keep [0, 1, 4, 5, 29] (.cons rfl (.cons rfl (.cons rfl (.cons rfl (.cons rfl .nil))))) ?_
  refine c_seq (c_block (c_seq (c_region ?_)))
  have h63j := h63i (by omega)
  refine l_move rfl rfl rfl ?_
  refine l_shl rfl rfl rfl rfl (by omega) (shl_eq (d := 2) (by decide) (w_u64 (by omega))) ?_
  refine l_assign rfl rfl rfl (l_nil (e_then ?_))
  refine c_keep [0, 1, 4, 5, 29] (.cons rfl (.cons rfl (.cons rfl (.cons rfl (.cons rfl .nil))))) ?_
  refine c_seq (c_seq (c_region (l_move rfl rfl rfl (l_move rfl rfl rfl ?_))))
  refine l_call rfl rfl Tryd.func85 rfl rfl (.cons rfl (.cons rfl .nil)) (subN vn vd ln ld hUn (U.of_dg hcd.dg) (by omega) (by omega) w4 (hw4.io mem0) (hw4.io mem1)) ?_
  rintro _ w5 ⟨vs, ls, rfl, hcs, hG⟩
  have hw5 := hG _ _ _ _ hw4
  try clear hG hw4
  simp only [List.cons_append, List.nil_append] at hw5
  refine l_move rfl rfl rfl (l_extract rfl rfl rfl rfl (l_extract rfl rfl rfl rfl (l_assign rfl rfl rfl (l_assign rfl rfl rfl (l_nil ?_)))))
  refine e_then ?_
  refine c_keep [0, 1, 4, 5, 7, 8, 29] (.cons rfl (.cons rfl (.cons rfl (.cons rfl (.cons rfl (.cons rfl (.cons rfl .nil))))))) ?_
  refine c_seq (c_region (l_move rfl rfl rfl (l_nil (e_then ?_))))
  refine c_keep [0, 1, 4, 5, 7, 29, 39] (.cons rfl (.cons rfl (.cons rfl (.cons rfl (.cons rfl (.cons rfl (.cons rfl .nil))))))) ?_
  first | refine c_cond rfl (fun hc1 => ?_) (fun hc1 => ?_) | refine c_condb rfl (fun hc1 => ?_) (fun hc1 => ?_)
  ·skip
   refine c_seq (c_region ?_)
   rw [if_pos hc1] at hcs
   have hvs := hcs.val
   change nv ls = _ at hvs
   have hsl := cn_len64 hcs (k := 8192) (by have := Ma.blen_mono (show 0 ≤ nv ln - nv ld by omega) (show nv ln - nv ld ≤ dn by omega); omega)
   refine l_move rfl rfl rfl ?_
   refine l_bits rfl rfl rfl rfl rfl (or_1 (by have := h63i (by omega); omega)) ?_
   refine l_assign rfl rfl rfl (l_nil (e_then ?_))
   refine c_keep [1, 4, 5, 7, 29] (.cons rfl (.cons rfl (.cons rfl (.cons rfl (.cons rfl .nil))))) ?_
   refine c_region (l_move rfl rfl rfl (l_assign rfl rfl rfl (l_nil (e_then ?_))))
   refine c_keep [0, 1, 4, 5, 29] (.cons rfl (.cons rfl (.cons rfl (.cons rfl (.cons rfl .nil))))) ?_
   refine c_region (l_move rfl rfl rfl ?_)
   refine l_call rfl rfl Tryd.func86 rfl rfl (.cons rfl .nil) (twiceB vs ls (U.of_dg hcs.dg) (by omega) w5 (hw5.io mem0)) ?_
   rintro v2 w6 ⟨_, l2, rfl, hU2, hl2, hn2, hG⟩
   have hw6 := hG _ _ _ _ hw5
   try clear hG hw5
   simp only [List.cons_append, List.nil_append] at hw6
   refine l_assign rfl rfl rfl (l_nil ?_)
   refine e_blk ?_
   refine e_then ?_
   refine c_keep [0, 1, 4, 5, 29] (.cons rfl (.cons rfl (.cons rfl (.cons rfl (.cons rfl .nil))))) ?_
   refine c_region ?_
   have hw7 := St.del (.tail .head) hw6
   try clear hw6
   have hw8 := St.del (.tail .head) hw7
   try clear hw7
   refine l_add rfl rfl rfl rfl (w_i64 (by omega)) ?_
   refine l_move rfl rfl rfl (l_nil ?_)
   refine e_againk (i := (i, man, vn, ln)) (i + 1, man * 2 + 1, v2, l2) ?_ ?_ (.cons rfl (.cons rfl .nil)) ?_
   ·first | omega | (simp; omega)
   ·refine ⟨hw8, by omega, hU2, by omega, by omega, by omega, ?_, by omega, by rw [Int.pow_succ]; omega⟩
    rw [hn2, hvs, hvd]
    exact ratio_step1 hiv
   ·exact (.cons rfl (by first | rfl | (refine congrArg (Value.int _) ?_; omega)) (.cons rfl (by first | rfl | (refine congrArg (Value.int _) ?_; omega)) (.cons rfl (by first | rfl | (refine congrArg (Value.int _) ?_; omega)) .nil)))
  ·skip
   refine c_skip (e_then ?_)
   refine c_keep [0, 1, 4, 5, 29] (.cons rfl (.cons rfl (.cons rfl (.cons rfl (.cons rfl .nil))))) ?_
   refine c_region (l_move rfl rfl rfl ?_)
   refine l_call rfl rfl Tryd.func86 rfl rfl (.cons rfl .nil) (twiceB vn ln hUn (by omega) w5 (hw5.io mem1)) ?_
   rintro v2 w9 ⟨_, l2, rfl, hU2, hl2, hn2, hG⟩
   have hw9 := hG _ _ _ _ hw5
   try clear hG hw5
   simp only [List.cons_append, List.nil_append] at hw9
   refine l_assign rfl rfl rfl (l_nil ?_)
   refine e_blk ?_
   refine e_then ?_
   refine c_keep [0, 1, 4, 5, 29] (.cons rfl (.cons rfl (.cons rfl (.cons rfl (.cons rfl .nil))))) ?_
   refine c_region ?_
   have hw10 := St.del (.tail .head) hw9
   try clear hw9
   have hw11 := St.del (.tail .head) hw10
   try clear hw10
   refine l_add rfl rfl rfl rfl (w_i64 (by omega)) ?_
   refine l_move rfl rfl rfl (l_nil ?_)
   refine e_againk (i := (i, man, vn, ln)) (i + 1, man * 2, v2, l2) ?_ ?_ (.cons rfl (.cons rfl .nil)) ?_
   ·first | omega | (simp; omega)
   ·refine ⟨hw11, by omega, hU2, by omega, by omega, by omega, ?_, by omega, by rw [Int.pow_succ]; omega⟩
    rw [hn2]
    exact ratio_step0 hiv
   ·exact (.cons rfl (by first | rfl | (refine congrArg (Value.int _) ?_; omega)) (.cons rfl (by first | rfl | (refine congrArg (Value.int _) ?_; omega)) (.cons rfl (by first | rfl | (refine congrArg (Value.int _) ?_; omega)) .nil)))
 ·skip
  refine c_exit ?_
  refine e_then_exit ?_
  refine e_then_exit ?_
  refine e_blk_exit ?_
  refine e_then ?_
  refine c_keep [0, 4, 5] (.cons rfl (.cons rfl (.cons rfl .nil))) ?_
  refine c_seq (c_region (l_move rfl rfl rfl (l_move rfl rfl rfl ?_)))
  refine l_sub rfl rfl rfl rfl (w_i64 (by omega)) ?_
  refine l_move rfl rfl rfl ?_
  refine l_callp rfl rfl Tryd.func67 rfl rfl (.cons rfl .nil) (lenV hUn (by omega) (hw4.io mem0)) ?_
  refine l_gtr rfl rfl rfl rfl ?_
  refine l_assign rfl rfl rfl (l_assign rfl rfl rfl (l_assign rfl rfl rfl (l_nil (e_then ?_))))
  refine c_keep [4, 5, 6] (.cons rfl (.cons rfl (.cons rfl .nil))) ?_
  refine c_ret ?_
  refine e_doneN Tryd.results78 (.tmp rfl (.tmp rfl (.tmp rfl .nil))) rfl ?_
  refine ⟨_, rfl, ?_⟩
  have hw12 := St.del (.tail .head) hw4
  try clear hw4
  have hw13 := St.del .head hw12
  try clear hw12
  obtain rfl : i = 64 := by omega
  rw [show (2 : Int) ^ 64 = 18446744073709551616 by rfl] at hiv hmi
  obtain ⟨g1, g2, g3, g4, g5⟩ := ratio_end hdnp hiv ⟨hnn, hn2d⟩ (by omega)
  refine ⟨_, _, _, rfl, ⟨hm0, by omega⟩, by omega, fun d => ?_, hw13.grows⟩
  refine ratio_rnd d ha0 hb0 rfl ⟨g5, hmi⟩ ?_ ⟨g2, ?_⟩ ?_
  ·rw [show (-(Ma.blen (nv la) - Ma.blen (nv lb))).toNat = (max (0 - (Ma.blen (nv la) - Ma.blen (nv lb))) 0).toNat by omega, show (Ma.blen (nv la) - Ma.blen (nv lb)).toNat = (max (Ma.blen (nv la) - Ma.blen (nv lb)) 0).toNat by omega, ← hn0, ← hdn]
   exact g1
  ·rw [show (Ma.blen (nv la) - Ma.blen (nv lb)).toNat = (max (Ma.blen (nv la) - Ma.blen (nv lb)) 0).toNat by omega, ← hdn]
   exact g3
  ·rw [decide_eq_true_iff, ← g4]
   constructor
   ·intro h
    rcases Int.lt_or_le 0 (nv ln) with h' | h'
    ·exact h'
    ·rw [show nv ln = 0 by omega, Ma.blen_zero] at h; omega
   ·exact Ma.blen_pos
theorem blen_eq0 {x : Int} (h : 0 ≤ x) : Ma.blen x = 0 ↔ x = 0 := by
 constructor
 ·intro hb
  rcases Int.lt_or_eq_of_le h with h1 | h1
  ·have := Ma.blen_pos h1; omega
  ·exact h1.symm
 ·intro hx; rw [hx, Ma.blen_zero]
theorem RoundR.none {k : Int} {neg : Bool} {x y : Int} (h : kd k = none) : RoundR k neg x y (0, false, 30) := by unfold RoundR; rw [h]
theorem RoundR.long {k : Int} {neg : Bool} {x y : Int} {d : Kd} (h : kd k = some d) (hl : 8192 < Ma.blen x ∨ 8192 < Ma.blen y) : RoundR k neg x y (0, false, 21) := by unfold RoundR; rw [h]; show (if _ then _ else _); rw [if_pos hl]
theorem RoundR.nil {k : Int} {neg : Bool} {x y : Int} {d : Kd} (h : kd k = some d) (hl : ¬ (8192 < Ma.blen x ∨ 8192 < Ma.blen y)) (h0 : y = 0) : RoundR k neg x y (0, false, 33) := by
 unfold RoundR; rw [h]; show (if _ then _ else _); rw [if_neg hl, if_pos h0]
theorem RoundR.is {k : Int} {neg : Bool} {x y : Int} {d : Kd} {t : Int × Bool × Int} (h : kd k = some d) (hl : ¬ (8192 < Ma.blen x ∨ 8192 < Ma.blen y)) (h0 : ¬ y = 0) (ht : RndR d.H (d.I - 1) (x * 2 ^ d.l) y t) : RoundR k neg x y (sgR d neg t) := by
 unfold RoundR; rw [h]; show (if _ then _ else _); rw [if_neg hl, if_neg h0]; exact ⟨t, ht, rfl⟩
theorem JoinR.none {k : Int} {neg : Bool} {x y : Int} (h : kd k = none) : JoinR k neg x y (0, false, 30) := by unfold JoinR; rw [h]
theorem JoinR.is {k : Int} {neg : Bool} {m e : Int} {d : Kd} {t : Int × Bool × Int} (h : kd k = some d) (ht : RndR d.H (d.I - 1) (m * 2 ^ (max (min e 2000) (-2000)).toNat * 2 ^ d.l) (2 ^ (-(max (min e 2000) (-2000))).toNat) t) : JoinR k neg m e (sgR d neg t) := by
 unfold JoinR; rw [h]; exact ⟨t, ht, rfl⟩
theorem sgR_ok {d : Kd} {neg : Bool} {t : Int × Bool × Int} (h : t.2.2 = 0) : sgR d neg t = (if neg then t.1 + d.S else t.1, t.2.1, 0) := if_pos h
theorem sgR_no {d : Kd} {neg : Bool} {t : Int × Bool × Int} (h : ¬ t.2.2 = 0) : sgR d neg t = (0, false, t.2.2) := if_neg h
theorem roundB (k : Int) (neg : Bool) (vx vy : Value) (lx ly : List Int) (hUx : U lx) (hUy : U ly) (hLx : lx.length ≤ 68719476736) (hLy : ly.length ≤ 68719476736) (w : World) (hvx : IV w vx (ints .u64 lx)) (hvy : IV w vy (ints .u64 ly)) :
  CallsV P 69 [.int .i64 k, .bool neg, vx, vy] w fun r w' => ∃ res : Int × Bool × Int, r = .tuple #[.int .u64 res.1, .bool res.2.1, .int .i64 res.2.2] ∧ RoundR k neg (nv lx) (nv ly) res ∧ Grow w w' [] := by
 refine enterW Tryd.func69 rfl Tryd.ntmps69 rfl ?_
 have hw0 := St.start w
 have hx0 := hUx.nv_nonneg
 have hy0 := hUy.nv_nonneg
 refine c_seq (c_region (l_assign rfl rfl rfl (l_assign rfl rfl rfl (l_assign rfl rfl rfl (l_nil ?_)))))
 refine e_then ?_
 refine c_keep [0, 1, 2, 3] (.cons rfl (.cons rfl (.cons rfl (.cons rfl .nil)))) ?_
 refine c_seq (c_region (l_move rfl rfl rfl ?_))
 refine l_call rfl rfl Tryd.func42 rfl rfl (.cons rfl .nil) (shapesB k w) ?_
 rintro _ w1 ⟨m, l, a, sok, rfl, hSh, hG⟩
 have hw1 := hG _ _ _ _ hw0
 try clear hG hw0
 simp only [List.cons_append, List.nil_append] at hw1
 refine l_move rfl rfl rfl (l_extract rfl rfl rfl rfl (l_extract rfl rfl rfl rfl ?_))
 refine l_alloc hw1 ta58 rfl rfl (fun b1_5 w2 hw2 => ?_)
 try clear hw1
 refine l_store_blks hw2 .head (.zero (.zero (.zero .nil))) rfl tz58 rfl rfl (by first | (simp [Value.oneCell']; done) | (intro u hu; simp only [List.mem_cons, List.not_mem_nil, or_false] at hu; rcases hu with rfl | rfl | rfl <;> first | rfl | assumption)) (fun w3 hw3 => ?_)
 try clear hw2
 refine l_assign rfl rfl rfl (l_nil (e_then ?_))
 refine c_keep [1, 2, 3, 11, 12] (.cons rfl (.cons rfl (.cons rfl (.cons rfl (.cons rfl .nil))))) ?_
 refine c_seq (c_block (c_seq (c_region (l_move rfl rfl rfl ?_))))
 first | refine l_notd rfl rfl rfl ?_ | refine l_not rfl rfl rfl ?_
 refine l_assign rfl rfl rfl (l_nil (e_then ?_))
 refine c_keep [1, 2, 3, 11, 18] (.cons rfl (.cons rfl (.cons rfl (.cons rfl (.cons rfl .nil))))) ?_
 first | refine c_cond rfl (fun hc0 => ?_) (fun hc0 => ?_) | refine c_condb rfl (fun hc0 => ?_) (fun hc0 => ?_)
 ·skip
  have hno : kd k = none := by
   rw [hSh.is] at hc0
   cases h : kd k with
   | none => rfl
   | some d => rw [h] at hc0; simp at hc0
  refine c_seq (c_region (l_assign rfl rfl rfl (l_assign rfl rfl rfl (l_assign rfl rfl rfl (l_nil ?_)))))
  refine e_then ?_
  refine c_keep [8, 9, 10] (.cons rfl (.cons rfl (.cons rfl .nil))) ?_
  refine c_ret ?_
  refine e_blk_ret ?_
  refine e_then_ret ?_
  refine e_doneN Tryd.results69 (.tmp rfl (.tmp rfl (.tmp rfl .nil))) rfl ?_
  refine ⟨_, rfl, ?_⟩
  have hw4 := St.del .head hw3
  try clear hw3
  exact ⟨_, rfl, RoundR.none hno, hw4.grows⟩
 ·skip
  obtain ⟨d, hd⟩ : ∃ d, kd k = some d := by
   rw [hSh.is] at hc0
   cases h : kd k with
   | none => rw [h] at hc0; simp at hc0
   | some d => exact ⟨d, rfl⟩
  obtain ⟨rfl, rfl, rfl⟩ := hSh.at hd
  have hbd := d.bd
  refine c_seq (c_region (l_move rfl rfl rfl ?_))
  refine l_callp rfl rfl Tryd.func67 rfl rfl (.cons rfl .nil) (lenV hUx (by omega) (hw3.iarg hvx)) ?_
  refine l_gtr rfl rfl rfl rfl ?_
  refine l_move rfl rfl rfl ?_
  apply l_or 3 [1, 2, 3, 11] rfl rfl (.cons rfl (.cons rfl (.cons rfl (.cons rfl (.cons rfl .nil))))) rfl rfl (fun _ => rfl) rfl rfl rfl
  ·intro hg4_4
   refine l_move rfl rfl rfl ?_
   refine l_callp rfl rfl Tryd.func67 rfl rfl (.cons rfl .nil) (lenV hUy (by omega) (hw3.iarg hvy)) ?_
   refine l_gtr rfl rfl rfl rfl ?_
   refine l_nil ?_
   exact e_stays rfl (.cons rfl (congrArg Value.bool (decide_eq_false hg4_4).symm) (.cons rfl rfl (.cons rfl rfl (.cons rfl rfl (.cons rfl rfl .nil)))))
  refine l_assign rfl rfl rfl (l_nil (e_then ?_))
  refine c_keep [1, 2, 3, 11, 21] (.cons rfl (.cons rfl (.cons rfl (.cons rfl (.cons rfl .nil))))) ?_
  first | refine c_cond rfl (fun hc1 => ?_) (fun hc1 => ?_) | refine c_condb rfl (fun hc1 => ?_) (fun hc1 => ?_)
  ·skip
   refine c_seq (c_region (l_assign rfl rfl rfl (l_assign rfl rfl rfl (l_assign rfl rfl rfl (l_nil ?_)))))
   refine e_then ?_
   refine c_keep [8, 9, 10] (.cons rfl (.cons rfl (.cons rfl .nil))) ?_
   refine c_ret ?_
   refine e_blk_ret ?_
   refine e_then_ret ?_
   refine e_doneN Tryd.results69 (.tmp rfl (.tmp rfl (.tmp rfl .nil))) rfl ?_
   refine ⟨_, rfl, ?_⟩
   have hw5 := St.del .head hw3
   try clear hw3
   exact ⟨_, rfl, RoundR.long hd hc1, hw5.grows⟩
  ·skip
   refine c_seq (c_region (l_move rfl rfl rfl ?_))
   refine l_callp rfl rfl Tryd.func67 rfl rfl (.cons rfl .nil) (lenV hUy (by omega) (hw3.iarg hvy)) ?_
   refine l_eql rfl rfl rfl rfl ?_
   refine l_assign rfl rfl rfl (l_nil (e_then ?_))
   refine c_keep [1, 2, 3, 11, 30] (.cons rfl (.cons rfl (.cons rfl (.cons rfl (.cons rfl .nil))))) ?_
   first | refine c_cond rfl (fun hc2 => ?_) (fun hc2 => ?_) | refine c_condb rfl (fun hc2 => ?_) (fun hc2 => ?_)
   ·skip
    have hy1 : nv ly = 0 := (blen_eq0 hy0).1 hc2
    refine c_seq (c_region (l_assign rfl rfl rfl (l_assign rfl rfl rfl (l_assign rfl rfl rfl (l_nil ?_)))))
    refine e_then ?_
    refine c_keep [8, 9, 10] (.cons rfl (.cons rfl (.cons rfl .nil))) ?_
    refine c_ret ?_
    refine e_blk_ret ?_
    refine e_then_ret ?_
    refine e_doneN Tryd.results69 (.tmp rfl (.tmp rfl (.tmp rfl .nil))) rfl ?_
    refine ⟨_, rfl, ?_⟩
    have hw6 := St.del .head hw3
    try clear hw3
    exact ⟨_, rfl, RoundR.nil hd hc1 hy1, hw6.grows⟩
   ·skip
    have hy1 : ¬ nv ly = 0 := fun h => hc2 ((blen_eq0 hy0).2 h)
    refine c_seq (c_region (l_move rfl rfl rfl ?_))
    refine l_callp rfl rfl Tryd.func67 rfl rfl (.cons rfl .nil) (lenV hUx (by omega) (hw3.iarg hvx)) ?_
    refine l_eql rfl rfl rfl rfl ?_
    refine l_assign rfl rfl rfl (l_nil (e_then ?_))
    refine c_keep [1, 2, 3, 11, 34] (.cons rfl (.cons rfl (.cons rfl (.cons rfl (.cons rfl .nil))))) ?_
    first | refine c_cond rfl (fun hc3 => ?_) (fun hc3 => ?_) | refine c_condb rfl (fun hc3 => ?_) (fun hc3 => ?_)
    ·skip
     have hx1 : nv lx = 0 := (blen_eq0 hx0).1 hc3
     refine c_seq (c_region ?_)
     refine l_load_agg hw3 mem0 rfl rfl Tryd.underlying58 rfl tz58 rfl (.take (.take (.take .nil))) ?_
     refine l_move rfl rfl rfl ?_
     refine l_call rfl rfl Tryd.func65 rfl rfl (.cons rfl (.cons rfl (.cons rfl .nil))) (signedB d neg 0 (by omega) w3) ?_
     rintro _ w7 ⟨rfl, hG⟩
     have hw7 := hG _ _ _ _ hw3
     try clear hG hw3
     simp only [List.cons_append, List.nil_append] at hw7
     refine l_assign rfl rfl rfl (l_assign rfl rfl rfl (l_assign rfl rfl rfl (l_nil (e_then ?_))))
     refine c_keep [8, 9, 10] (.cons rfl (.cons rfl (.cons rfl .nil))) ?_
     refine c_ret ?_
     refine e_blk_ret ?_
     refine e_then_ret ?_
     refine e_doneN Tryd.results69 (.tmp rfl (.tmp rfl (.tmp rfl .nil))) rfl ?_
     refine ⟨_, rfl, ?_⟩
     have hw8 := St.del .head hw7
     try clear hw7
     refine ⟨(if neg = true then 0 + d.S else 0, true, 0), rfl, ?_, hw8.grows⟩
     have hz := RndR.zero (H := d.H) (G := d.I - 1) (D := nv ly) d.I_lt.2.2 d.I_lt.1 d.I_lt.2.1 (by omega)
     have hr := RoundR.is (neg := neg) (x := nv lx) (y := nv ly) hd hc1 hy1 (t := (0, true, 0)) (by rw [hx1, Int.zero_mul]; exact hz)
     rw [sgR_ok rfl] at hr
     exact hr
    ·skip
     have hx1 : ¬ nv lx = 0 := fun h => hc3 ((blen_eq0 hx0).2 h)
     have hxp : 0 < nv lx := by omega
     have hyp : 0 < nv ly := by omega
     refine c_skip ?_
     refine e_blk ?_
     refine e_then ?_
     refine c_keep [1, 2, 3, 11] (.cons rfl (.cons rfl (.cons rfl (.cons rfl .nil)))) ?_
     refine c_seq ?_
     have hw9 := hw3.drewn
     try clear hw3
     refine c_any (n := 15) [false, false, false, false, false, false, false, false, false, false, false, false, false, false, false] (fun wS => (As.blk b1_5 58 [.int .i64 (d.M : Int), .int .i64 (-(d.l : Int)), .int .i64 (d.A : Int)]).ok wS) (by kernel_rfl) rfl rfl ?_
     apply a_take (L' := [true, false, false, false, false, false, false, false, false, false, false, false, false, false, false]) 0 rfl (by kernel_rfl) (by kernel_rfl) (by kernel_rfl) rfl rfl rfl rfl rfl (hw9.ok mem0)
     ·intro wS sS
      refine l_load_agg (blk_st sS) mem0 rfl rfl Tryd.underlying58 rfl tz58 rfl (.take (.take (.take .nil))) ?_
      refine l_nil ?_
      exact e_got rfl
     apply a_take (L' := [true, true, false, false, false, false, false, false, false, false, false, false, false, false, false]) 1 rfl (by kernel_rfl) (by kernel_rfl) (by kernel_rfl) rfl rfl rfl rfl rfl (hw9.ok mem0)
     ·intro wS sS
      refine l_move rfl rfl rfl (l_nil ?_)
      exact e_got rfl
     apply a_take (L' := [true, true, true, false, false, false, false, false, false, false, false, false, false, false, false]) 2 rfl (by kernel_rfl) (by kernel_rfl) (by kernel_rfl) rfl rfl rfl rfl rfl (hw9.ok mem0)
     ·intro wS sS
      refine l_move rfl rfl rfl (l_nil ?_)
      exact e_got rfl
     refine a_one (L' := [true, true, true, true, false, false, false, false, false, false, false, false, false, false, false]) 3 (by kernel_rfl) rfl rfl ?_
     refine l_call rfl rfl Tryd.func78 rfl rfl (.cons rfl (.cons rfl .nil)) (ratioB vx vy lx ly hUx hUy hLx hLy hxp hyp (by omega) (by omega) w3.drew (hw9.iarg hvx) (hw9.iarg hvy)) ?_
     rintro _ w10 ⟨man, exp, some, rfl, hman, hexp, hrnd, hG⟩
     have hw10 := hG _ _ _ _ hw9
     try clear hG hw9
     simp only [List.cons_append, List.nil_append] at hw10
     refine l_nil ?_
     refine e_any (hw10.ok mem0) ?_
     apply a_take (L' := [true, true, true, true, true, false, false, false, false, false, false, false, false, false, false]) 4 rfl (by kernel_rfl) (by kernel_rfl) (by kernel_rfl) rfl rfl rfl rfl rfl (hw10.ok mem0)
     ·intro wS sS
      refine l_extract rfl rfl rfl rfl (l_nil ?_)
      exact e_got rfl
     apply a_take (L' := [true, true, true, true, true, true, false, false, false, false, false, false, false, false, false]) 5 rfl (by kernel_rfl) (by kernel_rfl) (by kernel_rfl) rfl rfl rfl rfl rfl (hw10.ok mem0)
     ·intro wS sS
      refine l_extract rfl rfl rfl rfl (l_nil ?_)
      exact e_got rfl
     apply a_take (L' := [true, true, true, true, true, true, true, false, false, false, false, false, false, false, false]) 6 rfl (by kernel_rfl) (by kernel_rfl) (by kernel_rfl) rfl rfl rfl rfl rfl (hw10.ok mem0)
     ·intro wS sS
      refine l_extract rfl rfl rfl rfl (l_nil ?_)
      exact e_got rfl
     refine a_one (L' := [true, true, true, true, true, true, true, true, false, false, false, false, false, false, false]) 7 (by kernel_rfl) rfl rfl ?_
     refine l_call rfl rfl Tryd.func76 rfl rfl (.cons rfl (.cons rfl (.cons rfl (.cons rfl .nil)))) (packB d man exp some hman (by omega) w10) ?_
     rintro _ w11 ⟨rfl, hG⟩
     have hw11 := hG _ _ _ _ hw10
     try clear hG hw10
     simp only [List.cons_append, List.nil_append] at hw11
     refine l_nil ?_
     refine e_any (hw11.ok mem0) ?_
     apply a_take (L' := [true, true, true, true, true, true, true, true, true, false, false, false, false, false, false]) 8 rfl (by kernel_rfl) (by kernel_rfl) (by kernel_rfl) rfl rfl rfl rfl rfl (hw11.ok mem0)
     ·intro wS sS
      refine l_move rfl rfl rfl (l_nil ?_)
      exact e_got rfl
     apply a_take (L' := [true, true, true, true, true, true, true, true, true, true, false, false, false, false, false]) 9 rfl (by kernel_rfl) (by kernel_rfl) (by kernel_rfl) rfl rfl rfl rfl rfl (hw11.ok mem0)
     ·intro wS sS
      refine l_extract rfl rfl rfl rfl (l_nil ?_)
      exact e_got rfl
     apply a_take (L' := [true, true, true, true, true, true, true, true, true, true, true, false, false, false, false]) 10 rfl (by kernel_rfl) (by kernel_rfl) (by kernel_rfl) rfl rfl rfl rfl rfl (hw11.ok mem0)
     ·intro wS sS
      refine l_extract rfl rfl rfl rfl (l_nil ?_)
      exact e_got rfl
     apply a_take (L' := [true, true, true, true, true, true, true, true, true, true, true, true, false, false, false]) 11 rfl (by kernel_rfl) (by kernel_rfl) (by kernel_rfl) rfl rfl rfl rfl rfl (hw11.ok mem0)
     ·intro wS sS
      refine l_extract rfl rfl rfl rfl (l_nil ?_)
      exact e_got rfl
     apply a_take (L' := [true, true, true, true, true, true, true, true, true, true, true, true, true, false, false]) 12 rfl (by kernel_rfl) (by kernel_rfl) (by kernel_rfl) rfl rfl rfl rfl rfl (hw11.ok mem0)
     ·intro wS sS
      refine l_assign rfl rfl rfl (l_nil ?_)
      exact e_got rfl
     apply a_take (L' := [true, true, true, true, true, true, true, true, true, true, true, true, true, true, false]) 13 rfl (by kernel_rfl) (by kernel_rfl) (by kernel_rfl) rfl rfl rfl rfl rfl (hw11.ok mem0)
     ·intro wS sS
      refine l_assign rfl rfl rfl (l_nil ?_)
      exact e_got rfl
     apply a_take (L' := [true, true, true, true, true, true, true, true, true, true, true, true, true, true, true]) 14 rfl (by kernel_rfl) (by kernel_rfl) (by kernel_rfl) rfl rfl rfl rfl rfl (hw11.ok mem0)
     ·intro wS sS
      refine l_assign rfl rfl rfl (l_nil ?_)
      exact e_got rfl
     refine a_done (by kernel_rfl) ?_
     refine e_then ?_
     refine c_keep [1, 8, 9, 10, 11] (.cons rfl (.cons rfl (.cons rfl (.cons rfl (.cons rfl .nil))))) ?_
     refine c_seq (c_seq (c_region ?_))
     have ht := (hrnd d).bd (by have := d.I_lt; omega)
     refine l_move rfl rfl rfl ?_
     refine l_neq rfl rfl rfl rfl ?_
     refine l_nil (e_then ?_)
     refine c_keep [1, 8, 9, 10, 11, 54] (.cons rfl (.cons rfl (.cons rfl (.cons rfl (.cons rfl (.cons rfl .nil)))))) ?_
     first | refine c_cond rfl (fun hc4 => ?_) (fun hc4 => ?_) | refine c_condb rfl (fun hc4 => ?_) (fun hc4 => ?_)
     ·skip
      refine c_seq (c_region (l_move rfl rfl rfl (l_assign rfl rfl rfl (l_assign rfl rfl rfl (l_assign rfl rfl rfl ?_)))))
      refine l_nil (e_then ?_)
      refine c_keep [8, 9, 10] (.cons rfl (.cons rfl (.cons rfl .nil))) ?_
      refine c_ret ?_
      refine e_then_ret ?_
      refine e_doneN Tryd.results69 (.tmp rfl (.tmp rfl (.tmp rfl .nil))) rfl ?_
      refine ⟨_, rfl, ?_⟩
      have hw12 := St.del .head hw11
      try clear hw11
      refine ⟨(0, false, (packF d man exp some).2.2), rfl, ?_, hw12.grows⟩
      have hr := RoundR.is (neg := neg) hd hc1 hy1 (hrnd d)
      rw [sgR_no hc4] at hr
      exact hr
     ·skip
      refine c_skip (e_then ?_)
      refine c_keep [1, 8, 9, 11] (.cons rfl (.cons rfl (.cons rfl (.cons rfl .nil)))) ?_
      refine c_seq (c_region ?_)
      refine l_load_agg hw11 mem0 rfl rfl Tryd.underlying58 rfl tz58 rfl (.take (.take (.take .nil))) ?_
      refine l_move rfl rfl rfl (l_move rfl rfl rfl ?_)
      refine l_call rfl rfl Tryd.func65 rfl rfl (.cons rfl (.cons rfl (.cons rfl .nil))) (signedB d neg (packF d man exp some).1 (by omega) w11) ?_
      rintro _ w13 ⟨rfl, hG⟩
      have hw13 := hG _ _ _ _ hw11
      try clear hG hw11
      simp only [List.cons_append, List.nil_append] at hw13
      refine l_move rfl rfl rfl (l_assign rfl rfl rfl (l_assign rfl rfl rfl (l_assign rfl rfl rfl (l_nil (e_then ?_)))))
      refine c_keep [8, 9, 10] (.cons rfl (.cons rfl (.cons rfl .nil))) ?_
      refine c_ret ?_
      refine e_doneN Tryd.results69 (.tmp rfl (.tmp rfl (.tmp rfl .nil))) rfl ?_
      refine ⟨_, rfl, ?_⟩
      have hw14 := St.del .head hw13
      try clear hw13
      refine ⟨(if neg = true then (packF d man exp some).1 + d.S else (packF d man exp some).1, (packF d man exp some).2.1, 0), rfl, ?_, hw14.grows⟩
      have hr := RoundR.is (neg := neg) hd hc1 hy1 (hrnd d)
      rw [sgR_ok (by omega)] at hr
      exact hr
theorem joinB (k : Int) (neg : Bool) (man exp : Int) (hm : 0 ≤ man ∧ man ≤ 18446744073709551615) (he : -9223372036854775808 ≤ exp ∧ exp ≤ 9223372036854775807) (w : World) :
  CallsV P 66 [.int .i64 k, .agg #[.bool neg, .int .u64 man, .int .i64 exp]] w fun r w' => ∃ res : Int × Bool × Int, r = .tuple #[.int .u64 res.1, .bool res.2.1, .int .i64 res.2.2] ∧ JoinR k neg man exp res ∧ Grow w w' [] := by
 refine enterW Tryd.func66 rfl Tryd.ntmps66 rfl ?_
 have hw0 := St.start w
 refine c_seq (c_region ?_)
 refine l_box hw0 rfl rfl rfl (fun b0_0 w1 hw1 => ?_)
 try clear hw0
 refine l_assign rfl rfl rfl (l_assign rfl rfl rfl (l_assign rfl rfl rfl (l_nil (e_then ?_))))
 refine c_keep [0, 3] (.cons rfl (.cons rfl .nil)) ?_
 refine c_seq (c_region (l_move rfl rfl rfl ?_))
 refine l_call rfl rfl Tryd.func42 rfl rfl (.cons rfl .nil) (shapesB k w1) ?_
 rintro _ w2 ⟨m, l, a, sok, rfl, hSh, hG⟩
 have hw2 := hG _ _ _ _ hw1
 try clear hG hw1
 simp only [List.cons_append, List.nil_append] at hw2
 refine l_move rfl rfl rfl (l_extract rfl rfl rfl rfl (l_extract rfl rfl rfl rfl ?_))
 refine l_alloc hw2 ta58 rfl rfl (fun b1_5 w3 hw3 => ?_)
 try clear hw2
 refine l_store_blks hw3 .head (.zero (.zero (.zero .nil))) rfl tz58 rfl rfl (by first | (simp [Value.oneCell']; done) | (intro u hu; simp only [List.mem_cons, List.not_mem_nil, or_false] at hu; rcases hu with rfl | rfl | rfl <;> first | rfl | assumption)) (fun w4 hw4 => ?_)
 try clear hw3
 refine l_assign rfl rfl rfl (l_nil (e_then ?_))
 refine c_keep [3, 7, 8] (.cons rfl (.cons rfl (.cons rfl .nil))) ?_
 refine c_seq (c_block (c_seq (c_region (l_move rfl rfl rfl ?_))))
 first | refine l_notd rfl rfl rfl ?_ | refine l_not rfl rfl rfl ?_
 refine l_assign rfl rfl rfl (l_nil (e_then ?_))
 refine c_keep [3, 7, 14] (.cons rfl (.cons rfl (.cons rfl .nil))) ?_
 first | refine c_cond rfl (fun hc0 => ?_) (fun hc0 => ?_) | refine c_condb rfl (fun hc0 => ?_) (fun hc0 => ?_)
 ·skip
  have hno : kd k = none := by
   rw [hSh.is] at hc0
   cases h : kd k with
   | none => rfl
   | some d => rw [h] at hc0; simp at hc0
  refine c_seq (c_region (l_assign rfl rfl rfl (l_assign rfl rfl rfl (l_assign rfl rfl rfl (l_nil ?_)))))
  refine e_then ?_
  refine c_keep [4, 5, 6] (.cons rfl (.cons rfl (.cons rfl .nil))) ?_
  refine c_ret ?_
  refine e_blk_ret ?_
  refine e_then_ret ?_
  refine e_doneN Tryd.results66 (.tmp rfl (.tmp rfl (.tmp rfl .nil))) rfl ?_
  refine ⟨_, rfl, ?_⟩
  have hw5 := St.del (.tail .head) hw4
  try clear hw4
  have hw6 := St.del .head hw5
  try clear hw5
  exact ⟨_, rfl, JoinR.none hno, hw6.grows⟩
 ·skip
  obtain ⟨d, hd⟩ : ∃ d, kd k = some d := by
   rw [hSh.is] at hc0
   cases h : kd k with
   | none => rw [h] at hc0; simp at hc0
   | some d => exact ⟨d, rfl⟩
  obtain ⟨rfl, rfl, rfl⟩ := hSh.at hd
  have hbd := d.bd
  refine c_seq (c_region (l_field fo30_1 rfl rfl rfl ?_))
  refine l_load_blk hw4 mem1 rfl rfl Tryd.underlying22 rfl rfl rfl ?_
  refine l_eql rfl rfl rfl rfl ?_
  refine l_assign rfl rfl rfl (l_nil (e_then ?_))
  refine c_keep [3, 7, 17] (.cons rfl (.cons rfl (.cons rfl .nil))) ?_
  first | refine c_cond rfl (fun hc1 => ?_) (fun hc1 => ?_) | refine c_condb rfl (fun hc1 => ?_) (fun hc1 => ?_)
  ·skip
   refine c_seq (c_region ?_)
   refine l_load_agg hw4 mem0 rfl rfl Tryd.underlying58 rfl tz58 rfl (.take (.take (.take .nil))) ?_
   refine l_field fo30_0 rfl rfl rfl ?_
   refine l_load_blk hw4 mem1 rfl rfl Tryd.underlying4 rfl rfl rfl ?_
   refine l_call rfl rfl Tryd.func65 rfl rfl (.cons rfl (.cons rfl (.cons rfl .nil))) (signedB d neg 0 (by omega) w4) ?_
   rintro _ w7 ⟨rfl, hG⟩
   have hw7 := hG _ _ _ _ hw4
   try clear hG hw4
   simp only [List.cons_append, List.nil_append] at hw7
   refine l_assign rfl rfl rfl (l_assign rfl rfl rfl (l_assign rfl rfl rfl (l_nil (e_then ?_))))
   refine c_keep [4, 5, 6] (.cons rfl (.cons rfl (.cons rfl .nil))) ?_
   refine c_ret ?_
   refine e_blk_ret ?_
   refine e_then_ret ?_
   refine e_doneN Tryd.results66 (.tmp rfl (.tmp rfl (.tmp rfl .nil))) rfl ?_
   refine ⟨_, rfl, ?_⟩
   have hw8 := St.del (.tail .head) hw7
   try clear hw7
   have hw9 := St.del .head hw8
   try clear hw8
   refine ⟨(if neg = true then 0 + d.S else 0, true, 0), rfl, ?_, hw9.grows⟩
   have hz := RndR.zero (H := d.H) (G := d.I - 1) (D := 2 ^ (-(max (min exp 2000) (-2000))).toNat) d.I_lt.2.2 d.I_lt.1 d.I_lt.2.1 (p2 _)
   have hr := JoinR.is (neg := neg) (m := man) (e := exp) hd (t := (0, true, 0)) (by rw [hc1, Int.zero_mul, Int.zero_mul]; exact hz)
   rw [sgR_ok rfl] at hr
   exact hr
  ·skip
   have hrnd := join_rnd d (man := man) (exp := exp) (by omega) rfl
   have ht := hrnd.bd (by have := d.I_lt; omega)
   refine c_skip ?_
   refine e_blk ?_
   refine e_then ?_
   refine c_keep [3, 7] (.cons rfl (.cons rfl .nil)) ?_
   refine c_seq (c_region ?_)
   refine l_load_agg hw4 mem0 rfl rfl Tryd.underlying58 rfl tz58 rfl (.take (.take (.take .nil))) ?_
   refine l_field fo30_1 rfl rfl rfl ?_
   refine l_load_blk hw4 mem1 rfl rfl Tryd.underlying22 rfl rfl rfl ?_
   refine l_field fo30_2 rfl rfl rfl ?_
   refine l_load_blk hw4 mem1 rfl rfl Tryd.underlying3 rfl rfl rfl ?_
   refine l_call rfl rfl Tryd.func76 rfl rfl (.cons rfl (.cons rfl (.cons rfl (.cons rfl .nil)))) (packB d man exp false hm he w4) ?_
   rintro _ w10 ⟨rfl, hG⟩
   have hw10 := hG _ _ _ _ hw4
   try clear hG hw4
   simp only [List.cons_append, List.nil_append] at hw10
   refine l_move rfl rfl rfl (l_extract rfl rfl rfl rfl (l_extract rfl rfl rfl rfl (l_extract rfl rfl rfl rfl (l_assign rfl rfl rfl (l_assign rfl rfl rfl ?_)))))
   refine l_assign rfl rfl rfl (l_nil (e_then ?_))
   refine c_keep [3, 4, 5, 6, 7] (.cons rfl (.cons rfl (.cons rfl (.cons rfl (.cons rfl .nil))))) ?_
   refine c_seq (c_seq (c_region (l_move rfl rfl rfl ?_)))
   refine l_neq rfl rfl rfl rfl ?_
   refine l_nil (e_then ?_)
   refine c_keep [3, 4, 5, 6, 7, 36] (.cons rfl (.cons rfl (.cons rfl (.cons rfl (.cons rfl (.cons rfl .nil)))))) ?_
   first | refine c_cond rfl (fun hc2 => ?_) (fun hc2 => ?_) | refine c_condb rfl (fun hc2 => ?_) (fun hc2 => ?_)
   ·skip
    refine c_seq (c_region (l_move rfl rfl rfl (l_assign rfl rfl rfl (l_assign rfl rfl rfl (l_assign rfl rfl rfl ?_)))))
    refine l_nil (e_then ?_)
    refine c_keep [4, 5, 6] (.cons rfl (.cons rfl (.cons rfl .nil))) ?_
    refine c_ret ?_
    refine e_then_ret ?_
    refine e_doneN Tryd.results66 (.tmp rfl (.tmp rfl (.tmp rfl .nil))) rfl ?_
    refine ⟨_, rfl, ?_⟩
    have hw11 := St.del (.tail .head) hw10
    try clear hw10
    have hw12 := St.del .head hw11
    try clear hw11
    refine ⟨(0, false, (packF d man exp false).2.2), rfl, ?_, hw12.grows⟩
    have hr := JoinR.is (neg := neg) hd hrnd
    rw [sgR_no hc2] at hr
    exact hr
   ·skip
    refine c_skip (e_then ?_)
    refine c_keep [3, 4, 5, 7] (.cons rfl (.cons rfl (.cons rfl (.cons rfl .nil)))) ?_
    refine c_seq (c_region ?_)
    refine l_load_agg hw10 mem0 rfl rfl Tryd.underlying58 rfl tz58 rfl (.take (.take (.take .nil))) ?_
    refine l_field fo30_0 rfl rfl rfl ?_
    refine l_load_blk hw10 mem1 rfl rfl Tryd.underlying4 rfl rfl rfl ?_
    refine l_move rfl rfl rfl ?_
    refine l_call rfl rfl Tryd.func65 rfl rfl (.cons rfl (.cons rfl (.cons rfl .nil))) (signedB d neg (packF d man exp false).1 (by omega) w10) ?_
    rintro _ w13 ⟨rfl, hG⟩
    have hw13 := hG _ _ _ _ hw10
    try clear hG hw10
    simp only [List.cons_append, List.nil_append] at hw13
    refine l_move rfl rfl rfl (l_assign rfl rfl rfl (l_assign rfl rfl rfl (l_assign rfl rfl rfl (l_nil (e_then ?_)))))
    refine c_keep [4, 5, 6] (.cons rfl (.cons rfl (.cons rfl .nil))) ?_
    refine c_ret ?_
    refine e_doneN Tryd.results66 (.tmp rfl (.tmp rfl (.tmp rfl .nil))) rfl ?_
    refine ⟨_, rfl, ?_⟩
    have hw14 := St.del (.tail .head) hw13
    try clear hw13
    have hw15 := St.del .head hw14
    try clear hw14
    refine ⟨(if neg = true then (packF d man exp false).1 + d.S else (packF d man exp false).1, (packF d man exp false).2.1, 0), rfl, ?_, hw15.grows⟩
    have hr := JoinR.is (neg := neg) hd hrnd
    rw [sgR_ok (by omega)] at hr
    exact hr
end Go.Proofs.YtojjlipcjdaejaaDoor.W
