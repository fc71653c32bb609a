/- walks of pack, twice, ratio, Round, Join -/
import Derived.Test.YtgjgahmhoflgcaaGreatDoorGa
import Derived.Test.YtgjgahmhoflgcaaGreatDoorFm
set_option linter.unusedVariables false
set_option linter.unusedSimpArgs false
set_option maxRecDepth 10000
namespace Go.Proofs.YtgjgahmhoflgcaaGreatDoor.W
open Go.Vc Go.RowKit Tryz
def t1P (x rest : Int) (some : Bool) : Int := if 9223372036854775808 < rest ∨ rest = 9223372036854775808 ∧ (some = true ∨ x % 2 = 1) then x + 1 else x
def t2P (d : Kd) (x u : Int) : Int × Int := if x / 2 ^ d.M = 1 then (x / 2, u + 1) else (x, u)
def t3P (d : Kd) (p : Int × Int) : Int := if p.1 / d.H = 1 then p.1 + p.2 * d.H else p.1
theorem tailP_eq (d : Kd) (x rest : Int) (some : Bool) (u : Int) : Z6O d x rest some u = if d.I ≤ t3P d (t2P d (t1P x rest some) u) then (0, false, 34) else (t3P d (t2P d (t1P x rest some) u), decide (rest = 0 ∧ some = false), 0) := rfl
theorem packF_eq (d : Kd) (man exp : Int) (some : Bool) {e unit x rest : Int} {s2 : Bool} (he : e = min (max exp (-2500)) 2500) (hu : unit = max (e + Ma.blen man - d.M) (-(d.l : Int))) (hs : (x, rest, s2) = sw man (unit - e) some) : Z5h d man exp some = Z6O d x rest s2 (unit + d.l) := by
 unfold Z5h
 simp only
 rw [← he, ← hu, ← hs]
theorem sw_bd (d : Kd) {man down : Int} {some : Bool} {x rest : Int} {s2 : Bool} (hm : 0 ≤ man ∧ man ≤ 18446744073709551615) (hd : Ma.blen man - d.M ≤ down) (h : (x, rest, s2) = sw man down some) : 0 ≤ x ∧ x < 2 * d.H ∧ 0 ≤ rest ∧ rest ≤ 18446744073709551615 := by
 have hH := d.hH0
 obtain ⟨k, hk⟩ := Int.eq_ofNat_of_zero_le (Ma.blen_nonneg man)
 have hlt := (Ma.blen_le_iff hm.1 k).1 ZO
 unfold sw at h
 split at h
 ·obtain ⟨t, ht⟩ : ∃ t : Nat, -down = t := ⟨(-down).toNat, ZO⟩
  rw [ht, Int.toNat_natCast] at h
  injection h with h1 h2
  injection h2 with h2 h3
  rw [h1, h2]
  have e1 : man * 2 ^ t < 2 ^ k * 2 ^ t := Int.mul_lt_mul_of_pos_right hlt (p2 t)
  have e2 := Ma.pow_mono (show (1 : Int) ≤ 2 by omega) (show k + t ≤ d.M by omega)
  rw [Int.pow_add, d.hM] at e2
  have e0 := Int.mul_nonneg hm.1 (Int.le_of_lt (p2 t))
  have e3 : man * 2 ^ t % 18446744073709551616 ≤ man * 2 ^ t := by
   have := Int.emod_add_mul_ediv (man * 2 ^ t) 18446744073709551616
   have : 0 ≤ man * 2 ^ t / 18446744073709551616 := Int.ediv_nonneg e0 ZO
   omega
  omega
 split at h
 ·injection h with h1 h2
  injection h2 with h2 h3
  rw [h1, h2]
  omega
 split at h
 ·obtain ⟨t, ht⟩ : ∃ t : Nat, down = t := ⟨down.toNat, ZO⟩
  rw [ht, Int.toNat_natCast] at h
  injection h with h1 h2
  injection h2 with h2 h3
  rw [h1, h2]
  have e1 : 0 ≤ man / 2 ^ t := Int.ediv_nonneg hm.1 (Int.le_of_lt (p2 t))
  have e2 : man / 2 ^ t < 2 * d.H := by
   refine Int.ediv_lt_of_lt_mul (p2 _) ?_
   rw [← d.hM, ← Int.pow_add]
   exact Int.lt_of_lt_of_le hlt (Ma.pow_mono ZO ZO)
  omega
 injection h with h1 h2
 injection h2 with h2 h3
 rw [h1, h2]
 have e2 : man < 2 * d.H := by
  rw [← d.hM]
  exact Int.lt_of_lt_of_le hlt (Ma.pow_mono ZO ZO)
 omega
theorem t1_bd {x rest : Int} {some : Bool} {y : Int} (h : 0 ≤ x ∧ x < 2 * y) : 0 ≤ t1P x rest some ∧ t1P x rest some ≤ 2 * y := by unfold t1P; split <;> omega
theorem t2_bd (d : Kd) {x u : Int} (h : 0 ≤ x ∧ x ≤ 2 * d.H) (hu : 0 ≤ u) : 0 ≤ (t2P d x u).1 ∧ (t2P d x u).1 ≤ 2 * d.H ∧ u ≤ (t2P d x u).2 ∧ (t2P d x u).2 ≤ u + 1 := by
 unfold t2P
 split <;> simp only <;> omega
theorem t3_mul (d : Kd) {u : Int} (hu : 0 ≤ u ∧ u ≤ 3600) : 0 ≤ u * d.H ∧ u * d.H ≤ 16212958658533785600 := by
 have h1 := Int.mul_nonneg hu.1 (Int.le_of_lt d.hH0)
 have h2 : u * d.H ≤ 3600 * d.H := Int.mul_le_mul_of_nonneg_right hu.2 (Int.le_of_lt d.hH0)
 have h3 : d.H ≤ 4503599627370496 := by cases d <;> decide
 omega
theorem shr_M (d : Kd) {b : Int} (_h : 0 ≤ b) : b.fdiv (2 ^ (min (d.M : Int).toNat 64)) = b / 2 ^ d.M := by
 cases d <;> exact Int.fdiv_eq_ediv_of_nonneg _ (by decide)
theorem shl_H (d : Kd) {b : Int} (h : 0 ≤ b * d.H ∧ b * d.H ≤ 18446744073709551615) : IntKind.u64.wrap (b * 2 ^ (min ((d.M : Int) - 1).toNat 64)) = b * d.H := by
 cases d <;> exact Z1p h
theorem shl_t {b down : Int} (h : down ≤ 0) (h2 : -64 ≤ down) : IntKind.u64.wrap (b * 2 ^ (min (0 - down).toNat 64)) = b * 2 ^ (-down).toNat % 18446744073709551616 := by
 rw [show min (0 - down).toNat 64 = (-down).toNat by omega]
 exact Z2H _
theorem shr_t {b down : Int} (h : 0 ≤ down) (h2 : down ≤ 64) : b.fdiv (2 ^ (min down.toNat 64)) = b / 2 ^ down.toNat := by
 rw [show min down.toNat 64 = down.toNat by omega]
 exact Int.fdiv_eq_ediv_of_nonneg _ (Int.le_of_lt (p2 _))
theorem shl_r {b down : Int} (h : 0 ≤ down) (h2 : down ≤ 64) : IntKind.u64.wrap (b * 2 ^ (min (64 - down).toNat 64)) = b * 2 ^ (64 - down.toNat) % 18446744073709551616 := by
 rw [show min (64 - down).toNat 64 = 64 - down.toNat by omega]
 exact Z2H _
theorem packB (d : Kd) (man exp : Int) (some : Bool) (hm : 0 ≤ man ∧ man ≤ 18446744073709551615) (hx : -9223372036854775808 ≤ exp ∧ exp ≤ 9223372036854775807) (w : World) :
  Z0f P 260 [.agg #[.int .i64 (d.M : Int), .int .i64 (-(d.l : Int)), .int .i64 (d.A : Int)], .int .u64 man, .int .i64 exp, .bool some] w fun r w' => r = .tuple #[.int .u64 (Z5h d man exp some).1, .bool (Z5h d man exp some).2.1, .int .i64 (Z5h d man exp some).2.2] ∧ Grow w w' [] := by
 refine Z0o func260 rfl ntmps260 rfl ?_
 have H0 := St.start w
 have hbd := d.bd
 have hbl0 := Ma.blen_nonneg man
 have hbl1 : Ma.blen man ≤ (64 : Nat) := (Ma.blen_le_iff hm.1 64).2 (by rw [show (2 : Int) ^ 64 = 18446744073709551616 by rfl]; omega)
 have hMl : 149 ≤ (d.l : Int) ∧ (d.l : Int) ≤ 1074 ∧ (d.l : Int) ≤ 21 * d.M := by cases d <;> decide
 refine Z03 (Z00 ?_)
 refine Z57 H0 rfl rfl rfl (fun b0_0 w1 H1 => ?_)
 refine Zg ?_
 refine Zg ?_
 refine Zg (Z01 (Z02 ?_))
 refine Zk [1, 2, 3, 4] ?_
 refine Z03 (Z00 (Zm ?_))
 refine Z5T rfl rfl rfl rfl ?_
 refine l_min rfl rfl rfl rfl ?_
 refine Zg (Z01 (Z02 ?_))
 refine Zk [1, 2, 3, 4] ?_
 refine Z1q (ι := Int) (fun (unit : Int) (w' : World) => St w w.heap.size Z0J ([As.blk b0_0 158 [.int .i64 (d.M : Int), .int .i64 (-(d.l : Int)), .int .i64 (d.A : Int)]]) w' ∧ unit = max (min (max exp (-2500)) 2500 + Ma.blen man - d.M) (-(d.l : Int))) (fun (unit : Int) => [(11, .int .i64 unit)]) [1, 2, 3, 4] (.cons rfl (.cons rfl (.cons rfl (.cons rfl .nil)))) ?_ ?_
 ·have H2 := H1.drewn
  refine Z1a (n := 11) [Zz,Zz,Zz,Zz,Zz,Zz,Zz,Zz,Zz,Zz,Zz] (fun wS => (As.blk b0_0 158 [.int .i64 (d.M : Int), .int .i64 (-(d.l : Int)), .int .i64 (d.A : Int)]).ok wS) ZK rfl rfl ?_
  apply Zu (L' := [Zy,Zz,Zz,Zz,Zz,Zz,Zz,Zz,Zz,Zz,Zz]) 0 (H2.ok mem0)
  ·intro wS sS
   refine Zm (Z01 ?_)
   exact Z04 rfl
  apply Zu (L' := [Zy,Zy,Zz,Zz,Zz,Zz,Zz,Zz,Zz,Zz,Zz]) 1 (H2.ok mem0)
  ·intro wS sS
   refine Zm (Z01 ?_)
   exact Z04 rfl
  apply Zu (L' := [Zy,Zy,Zz,Zz,Zy,Zz,Zz,Zz,Zz,Zz,Zz]) 4 (H2.ok mem0)
  ·intro wS sS
   refine Z09 Z6h rfl rfl rfl (Z01 ?_)
   exact Z04 rfl
  apply Zu (L' := [Zy,Zy,Zz,Zz,Zy,Zy,Zz,Zz,Zz,Zz,Zz]) 5 (H2.ok mem0)
  ·intro wS sS
   refine Z05 (Z0r sS) mem0 rfl rfl underlying3 rfl rfl rfl ?_
   refine Z01 ?_
   exact Z04 rfl
  apply Zu (L' := [Zy,Zy,Zz,Zz,Zy,Zy,Zz,Zy,Zz,Zz,Zz]) 7 (H2.ok mem0)
  ·intro wS sS
   refine Z09 fo158_1 rfl rfl rfl (Z01 ?_)
   exact Z04 rfl
  apply Zu (L' := [Zy,Zy,Zz,Zz,Zy,Zy,Zz,Zy,Zy,Zz,Zz]) 8 (H2.ok mem0)
  ·intro wS sS
   refine Z05 (Z0r sS) mem0 rfl rfl underlying3 rfl rfl rfl ?_
   refine Z01 ?_
   exact Z04 rfl
  refine Z0v (L' := [Zy,Zy,Zy,Zz,Zy,Zy,Zz,Zy,Zy,Zz,Zz]) 2 ZK rfl rfl ?_
  refine Zp func275 (len64 man hm _) ?_
  refine Z01 ?_
  refine Z0n (H2.ok mem0) ?_
  apply Zu (L' := [Zy,Zy,Zy,Zy,Zy,Zy,Zz,Zy,Zy,Zz,Zz]) 3 (H2.ok mem0)
  ·intro wS sS
   refine Z0y rfl rfl rfl rfl (Z0l ZO) ?_
   refine Z01 ?_
   exact Z04 rfl
  apply Zu (L' := [Zy,Zy,Zy,Zy,Zy,Zy,Zy,Zy,Zy,Zz,Zz]) 6 (H2.ok mem0)
  ·intro wS sS
   refine Z0W rfl rfl rfl rfl (Z0l ZO) ?_
   refine Z01 ?_
   exact Z04 rfl
  refine Z0v (L' := [Zy,Zy,Zy,Zy,Zy,Zy,Zy,Zy,Zy,Zy,Zz]) 9 ZK rfl rfl ?_
  refine Z5T rfl rfl rfl rfl ?_
  refine Z01 ?_
  refine Z0n (H2.ok mem0) ?_
  apply Zu (L' := [Zy,Zy,Zy,Zy,Zy,Zy,Zy,Zy,Zy,Zy,Zy]) 10 (H2.ok mem0)
  ·intro wS sS
   refine Zg (Z01 ?_)
   exact Z04 rfl
  refine Z0B ZK ?_
  refine Z0w (max (min (max exp (-2500)) 2500 + Ma.blen man - d.M) (-(d.l : Int))) ?_ (.cons rfl (.cons rfl (.cons rfl (.cons rfl .nil)))) ?_
  ·exact ⟨H2, rfl⟩
  exact (.cons rfl ZN .nil)
 rintro unit w3 ⟨H3, hun⟩
 have hu36 : 0 ≤ unit + d.l ∧ unit + d.l ≤ 3599 := by
  have : (d.l : Int) - d.M ≤ 1021 := by cases d <;> decide
  omega
 show RunC P _ _ _ (_ :: _) _
 refine Z03 (Z00 (Zm ?_))
 refine Zm ?_
 refine Z0W rfl rfl rfl rfl (Z0l ZO) ?_
 refine Zg (Z01 (Z02 ?_))
 refine Zk [1, 3, 4, 11, 12] ?_
 refine Z03 (Z00 (Zm ?_))
 refine Zg ?_
 refine Zg (Z01 (Z02 ?_))
 refine Zk [1, 3, 4, 11, 12, 13, 14] ?_
 refine Z1q (ι := Int × Int × Bool) (fun (z0 : Int × Int × Bool) (w' : World) => match z0 with | ⟨x, rest, s2⟩ => St w w.heap.size Z0J ([As.blk b0_0 158 [.int .i64 (d.M : Int), .int .i64 (-(d.l : Int)), .int .i64 (d.A : Int)]]) w' ∧ (x, rest, s2) = sw man (unit - min (max exp (-2500)) 2500) some) (fun (z0 : Int × Int × Bool) => match z0 with | ⟨x, rest, s2⟩ => [(3, .bool s2), (13, .int .u64 x), (14, .int .u64 rest)]) [4, 11] (.cons rfl (.cons rfl .nil)) ?_ ?_
 ·refine Z0d (Z03 (Z00 (Zm ?_)))
  refine Zl ?_
  refine Zg (Z01 (Z02 ?_))
  refine Zk [1, 3, 4, 11, 12, 13, 14, 32] ?_
  (first | refine Z0c rfl ?_ ?_ | refine Z08 rfl ?_ ?_) <;> intro hc0
  ·refine Z00 (Zm ?_)
   refine Zm ?_
   refine Z5M rfl rfl rfl (Z0l ZO) ?_
   refine Z5I rfl rfl rfl rfl ZO (shl_t ZO ZO) ?_
   refine Zg (Z01 ?_)
   refine Z0F ?_
   refine Z0w (man * 2 ^ (-(unit - min (max exp (-2500)) 2500)).toNat % 18446744073709551616, 0, some) ?_ (.cons rfl (.cons rfl .nil)) ?_
   ·refine ⟨H3, ?_⟩
    unfold sw
    rw [if_pos ZA]
   exact (.cons rfl ZN (.cons rfl ZN (.cons rfl ZN .nil)))
  refine Z03 (Z00 (Zm ?_))
  refine Zw ?_
  refine Zg (Z01 (Z02 ?_))
  refine Zk [1, 3, 4, 11, 12, 13, 14, 39] ?_
  (first | refine Z0c rfl ?_ ?_ | refine Z08 rfl ?_ ?_) <;> intro hc1
  ·refine Z00 (Zg ?_)
   refine Zg ?_
   refine Zg (Z01 ?_)
   refine Z0F ?_
   refine Z0w (0, 0, true) ?_ (.cons rfl (.cons rfl .nil)) ?_
   ·refine ⟨H3, ?_⟩
    unfold sw
    rw [if_neg ZA, if_pos ZA]
   exact (.cons rfl ZN (.cons rfl ZN (.cons rfl ZN .nil)))
  refine Z03 (Z00 (Zm ?_))
  refine Zw ?_
  refine Zg (Z01 (Z02 ?_))
  refine Zk [1, 3, 4, 11, 12, 13, 14, 42] ?_
  (first | refine Z0c rfl ?_ ?_ | refine Z08 rfl ?_ ?_) <;> intro hc2
  ·refine Z03 (Z00 (Zm ?_))
   refine Zm ?_
   refine Z3e rfl rfl rfl rfl ZO (shr_t ZO ZO) ?_
   refine Zg (Z01 (Z02 ?_))
   refine Zk [1, 3, 4, 11, 12, 13] ?_
   refine Z00 (Zm ?_)
   refine Zm ?_
   refine Z0W rfl rfl rfl rfl (Z0l ZO) ?_
   refine Z5I rfl rfl rfl rfl ZO (shl_r ZO ZO) ?_
   refine Zg (Z01 ?_)
   refine Z0F ?_
   refine Z0w (man / 2 ^ (unit - min (max exp (-2500)) 2500).toNat, man * 2 ^ (64 - (unit - min (max exp (-2500)) 2500).toNat) % 18446744073709551616, some) ?_ (.cons rfl (.cons rfl .nil)) ?_
   ·refine ⟨H3, ?_⟩
    unfold sw
    rw [if_neg ZO, if_neg ZO, if_pos ZO]
   exact (.cons rfl ZN (.cons rfl ZN (.cons rfl ZN .nil)))
  refine Z0a ?_
  refine Z0F ?_
  refine Z0w (man, 0, some) ?_ (.cons rfl (.cons rfl .nil)) ?_
  ·refine ⟨H3, ?_⟩
   unfold sw
   rw [if_neg ZO, if_neg ZO, if_neg ZO]
  exact (.cons rfl ZN (.cons rfl ZN (.cons rfl ZN .nil)))
 rintro ⟨x, rest, s2⟩ w4 ⟨H4, hsw⟩
 have hsb := sw_bd d hm ZO hsw
 show RunC P _ _ _ (_ :: _) _
 refine Z1q (ι := Int) (fun (x1 : Int) (w' : World) => St w w.heap.size Z0J ([As.blk b0_0 158 [.int .i64 (d.M : Int), .int .i64 (-(d.l : Int)), .int .i64 (d.A : Int)]]) w' ∧ x1 = t1P x rest s2) (fun (x1 : Int) => [(13, .int .u64 x1)]) [3, 4, 11, 14] (.cons rfl (.cons rfl (.cons rfl (.cons rfl .nil)))) ?_ ?_
 ·refine Z03 (Z00 (Zm ?_))
  refine Zw ?_
  refine Zm ?_
  apply l_or (q := rest = 9223372036854775808 ∧ (s2 = true ∨ x % 2 = 1)) 10 [3, 4, 11, 13, 14] rfl rfl (.cons rfl (.cons rfl (.cons rfl (.cons rfl (.cons rfl (.cons rfl .nil)))))) rfl rfl (fun _ => rfl) rfl rfl rfl
  ·intro hg12_3
   refine Zm ?_
   refine Ze ?_
   refine Zm ?_
   apply Z47 (q := s2 = true ∨ x % 2 = 1) 6 [3, 4, 11, 13, 14, 54] rfl rfl (.cons rfl (.cons rfl (.cons rfl (.cons rfl (.cons rfl (.cons rfl (.cons rfl .nil))))))) rfl rfl (fun _ => rfl) rfl rfl rfl
   ·intro hg12_6
    refine Zm ?_
    refine Zm ?_
    refine Z0j (s := 59) (v' := .bool (decide (s2 = true))) rfl (by cases s2 <;> rfl) ?_
    apply l_or (q := x % 2 = 1) 3 [3, 4, 11, 13, 14, 54, 57] rfl rfl (.cons rfl (.cons rfl (.cons rfl (.cons rfl (.cons rfl (.cons rfl (.cons rfl (.cons rfl .nil)))))))) rfl rfl (fun _ => rfl) rfl rfl rfl
    ·intro hg12_8
     refine Zm ?_
     refine Z1i rfl rfl rfl rfl rfl (Z3r 1 (d := 2) ZO ZO (by decide) (by decide)) ?_
     refine Ze ?_
     refine Z01 ?_
     exact Z0O rfl (.cons rfl (ZF hg12_8) (.cons rfl rfl (.cons rfl rfl (.cons rfl rfl (.cons rfl rfl (.cons rfl rfl (.cons rfl rfl (.cons rfl rfl .nil))))))))
     all_goals infer_instance
    refine Z01 ?_
    exact Z0O rfl (.cons rfl (ZT hg12_6) (.cons rfl rfl (.cons rfl rfl (.cons rfl rfl (.cons rfl rfl (.cons rfl rfl (.cons rfl rfl .nil)))))))
    all_goals infer_instance
   refine Z01 ?_
   exact Z0O rfl (.cons rfl (ZF hg12_3) (.cons rfl rfl (.cons rfl rfl (.cons rfl rfl (.cons rfl rfl (.cons rfl rfl .nil))))))
   all_goals infer_instance
  refine Z01 (Z02 ?_)
  refine Zk [3, 4, 11, 13, 14, 65] ?_
  (first | refine Z0c rfl ?_ ?_ | refine Z08 rfl ?_ ?_) <;> intro hc3
  ·refine Z00 (Zm ?_)
   refine Z0y rfl rfl rfl rfl (Z1p ZO) ?_
   refine Zg (Z01 ?_)
   refine Z0w (x + 1) ?_ (.cons rfl (.cons rfl (.cons rfl (.cons rfl .nil)))) ?_
   ·refine ⟨H4, ?_⟩
    unfold t1P
    rw [if_pos ZA]
   exact (.cons rfl ZN .nil)
  refine Z0a ?_
  refine Z0w (x) ?_ (.cons rfl (.cons rfl (.cons rfl (.cons rfl .nil)))) ?_
  ·refine ⟨H4, ?_⟩
   unfold t1P
   rw [if_neg ZA]
  exact (.cons rfl ZN .nil)
 rintro x1 w5 ⟨H5, hx1⟩
 have hb1 : 0 ≤ x1 ∧ x1 ≤ 2 * d.H := by rw [hx1]; exact t1_bd ⟨hsb.1, hsb.2.1⟩
 show RunC P _ _ _ (_ :: _) _
 refine Z1q (ι := Int × Int) (fun (z0 : Int × Int) (w' : World) => match z0 with | ⟨x2, u2⟩ => St w w.heap.size Z0J ([As.blk b0_0 158 [.int .i64 (d.M : Int), .int .i64 (-(d.l : Int)), .int .i64 (d.A : Int)]]) w' ∧ (x2, u2 + d.l) = t2P d x1 (unit + d.l)) (fun (z0 : Int × Int) => match z0 with | ⟨x2, u2⟩ => [(11, .int .i64 u2), (13, .int .u64 x2)]) [3, 4, 14] (.cons rfl (.cons rfl (.cons rfl .nil))) ?_ ?_
 ·refine Z03 (Z00 (Zm (Z09 Z6h rfl rfl rfl ?_)))
  refine Z05 H5 mem0 rfl rfl underlying3 rfl rfl rfl ?_
  refine Z3e rfl rfl rfl rfl ZO (shr_M d hb1.1) ?_
  refine Ze ?_
  refine Z01 (Z02 ?_)
  refine Zk [3, 4, 11, 13, 14, 72] ?_
  (first | refine Z0c rfl ?_ ?_ | refine Z08 rfl ?_ ?_) <;> intro hc4
  ·refine Z03 (Z00 (Zm ?_))
   refine Z3e rfl rfl rfl rfl ZO (Z2b (d := 2) (by decide) (by decide)) ?_
   refine Zg (Z01 (Z02 ?_))
   refine Zk [3, 4, 11, 13, 14] ?_
   refine Z00 (Zm ?_)
   refine Z0y rfl rfl rfl rfl (Z0l ZO) ?_
   refine Zg (Z01 ?_)
   refine Z0w (x1 / 2, unit + 1) ?_ (.cons rfl (.cons rfl (.cons rfl .nil))) ?_
   ·refine ⟨H5, ?_⟩
    unfold t2P
    rw [if_pos ZA]
    congr 1
    omega
   exact (.cons rfl ZN (.cons rfl ZN .nil))
  refine Z0a ?_
  refine Z0w (x1, unit) ?_ (.cons rfl (.cons rfl (.cons rfl .nil))) ?_
  ·refine ⟨H5, ?_⟩
   unfold t2P
   rw [if_neg ZA]
  exact (.cons rfl ZN (.cons rfl ZN .nil))
 rintro ⟨x2, u2⟩ w6 ⟨H6, hx2⟩
 have hb2 : 0 ≤ x2 ∧ x2 ≤ 2 * d.H ∧ unit + d.l ≤ u2 + d.l ∧ u2 + d.l ≤ unit + d.l + 1 := by
  have := t2_bd d hb1 (u := unit + d.l) hu36.1
  rw [← hx2] at this
  exact this
 have hub := t3_mul d (u := u2 + d.l) ZO
 have hus : u2 - -(d.l : Int) = u2 + d.l := by omega
 have hH53 : d.H ≤ 4503599627370496 := by cases d <;> decide
 show RunC P _ _ _ (_ :: _) _
 refine Z1q (ι := Int) (fun (x3 : Int) (w' : World) => St w w.heap.size Z0J ([As.blk b0_0 158 [.int .i64 (d.M : Int), .int .i64 (-(d.l : Int)), .int .i64 (d.A : Int)]]) w' ∧ x3 = t3P d (x2, u2 + d.l)) (fun (x3 : Int) => [(13, .int .u64 x3)]) [3, 4, 14] (.cons rfl (.cons rfl (.cons rfl .nil))) ?_ ?_
 ·refine Z03 (Z00 (Zm (Z09 Z6h rfl rfl rfl ?_)))
  refine Z05 H6 mem0 rfl rfl underlying3 rfl rfl rfl ?_
  refine Z0W rfl rfl rfl rfl (Z0l ZO) ?_
  refine Z3e rfl rfl rfl rfl ZO (shr_H d hb2.1) ?_
  refine Ze ?_
  refine Z01 (Z02 ?_)
  refine Zk [3, 4, 11, 13, 14, 82] ?_
  (first | refine Z0c rfl ?_ ?_ | refine Z08 rfl ?_ ?_) <;> intro hc5
  ·refine Z00 (Zm ?_)
   refine Zm (Z09 fo158_1 rfl rfl rfl ?_)
   refine Z05 H6 mem0 rfl rfl underlying3 rfl rfl rfl ?_
   refine Z0W rfl rfl rfl rfl (Z0l ZO) ?_
   refine Z5a rfl rfl underlying3 underlying24 rfl (Z1p ZO) ?_
   refine Z09 Z6h rfl rfl rfl ?_
   refine Z05 H6 mem0 rfl rfl underlying3 rfl rfl rfl ?_
   refine Z0W rfl rfl rfl rfl (Z0l ZO) ?_
   refine Z5I rfl rfl rfl rfl ZO (shl_H d (by rw [hus]; omega)) ?_
   refine Z0y rfl rfl rfl rfl (Z1p (by rw [hus]; omega)) ?_
   refine Zg (Z01 ?_)
   refine Z0w (x2 + (u2 - -(d.l : Int)) * d.H) ?_ (.cons rfl (.cons rfl (.cons rfl .nil))) ?_
   ·refine ⟨H6, ?_⟩
    unfold t3P
    rw [if_pos ZA, hus]
   exact (.cons rfl ZN .nil)
  refine Z0a ?_
  refine Z0w (x2) ?_ (.cons rfl (.cons rfl (.cons rfl .nil))) ?_
  ·refine ⟨H6, ?_⟩
   unfold t3P
   rw [if_neg ZA]
  exact (.cons rfl ZN .nil)
 rintro x3 w7 ⟨H7, hx3⟩
 show RunC P _ _ _ (_ :: _) _
 refine Z03 (Z03 (Z00 (Zm ?_)))
 refine Z1b H7 mem0 rfl rfl underlying158 rfl Z5y rfl (.take (.take (.take .nil))) ?_
 refine Zc func108 (infB d w7) ?_
 rintro _ w8 ⟨rfl, hG⟩
 have H8 := hG _ _ _ _ H7
 simp only [Zca, Zna] at H8
 refine Zh ?_
 refine Z01 (Z02 ?_)
 refine Zk [3, 13, 14, 97] ?_
 (first | refine Z0c rfl ?_ ?_ | refine Z08 rfl ?_ ?_) <;> intro hc6
 ·refine Z03 (Z00 (Zg ?_))
  refine Zg ?_
  refine Zg (Z01 (Z02 ?_))
  refine Zk [8, 9, 10] ?_
  refine Z0i ?_
  refine Z07 ?_
  refine Z12 results260 (.tmp rfl (.tmp rfl (.tmp rfl .nil))) rfl ?_
  refine ⟨_, rfl, ?_⟩
  have H9 := St.del .head H8
  refine ⟨?_, H9.grows⟩
  rw [packF_eq d man exp some rfl hun hsw, tailP_eq, ← hx1, ← hx2, ← hx3, if_pos ZA]
 refine Z0a (Z02 ?_)
 refine Zk [3, 13, 14] ?_
 refine Z03 (Z00 (Zm ?_))
 refine Zm ?_
 refine Ze ?_
 refine Zm ?_
 apply Z47 2 [98] rfl rfl (.cons rfl (.cons rfl .nil)) rfl rfl (fun _ => rfl) rfl rfl rfl
 ·intro hg21_4
  refine Z0j (s := 3) (v' := .bool (decide (s2 = true))) rfl (by cases s2 <;> rfl) ?_
  refine Zm ?_
  first | refine Z38 rfl rfl rfl ?_ | refine Z3v rfl rfl rfl ?_
  refine Z01 ?_
  exact Z0O rfl (.cons rfl (ZT hg21_4) (.cons rfl rfl .nil))
  all_goals infer_instance
 refine Zg ?_
 refine Zg ?_
 refine Zg (Z01 (Z02 ?_))
 refine Zk [8, 9, 10] ?_
 refine Z0i ?_
 refine Z12 results260 (.tmp rfl (.tmp rfl (.tmp rfl .nil))) rfl ?_
 refine ⟨_, rfl, ?_⟩
 have H10 := St.del .head H8
 refine ⟨?_, H10.grows⟩
 rw [packF_eq d man exp some rfl hun hsw, tailP_eq, ← hx1, ← hx2, ← hx3, if_neg ZA]
 all_goals simp
theorem or_one {x b : Int} (hb : 0 ≤ b ∧ b ≤ 1) : bitw .or .u64 b (x * 2 % 18446744073709551616) = b + x * 2 % 18446744073709551616 := by
 have h1 := or_low (x := x) (b := b) (k := 1) ZO ⟨hb.1, by show b < 2; omega⟩
 rw [← shl_low ZO] at h1
 exact h1
theorem or_1 {m : Int} (hm : 0 ≤ m ∧ m ≤ 9223372036854775807) : bitw .or .u64 (m * 2) 1 = m * 2 + 1 := or_add (a := m) (b := 1) 1 (by omega) ⟨hm.1, by show m * 2 ≤ _; omega⟩ ⟨by omega, by decide⟩
theorem lenV {v : Value} {l : List Int} (hU : U l) (hL : l.length ≤ 17592186044416) {w : World} (hv : IV w v (ints .u64 l)) : Z0f P 250 [v] w fun r w' => r = .int .i64 (Ma.blen (nv l)) ∧ w = w' := by
 obtain ⟨A, c, rfl, hc, hs⟩ := hv
 exact lenN A c l hU hL w ⟨A, c, rfl, hc, hs⟩
theorem twice_step {p V A x o : Int} (h : V = 2 * A) : V + p * ((o + x * 2 % 18446744073709551616) - o) + p * 18446744073709551616 * (x / 9223372036854775808) = 2 * (A + p * x) := by
 have e : x * 2 % 18446744073709551616 + 18446744073709551616 * (x / 9223372036854775808) = 2 * x := by omega
 rw [show o + x * 2 % 18446744073709551616 - o = x * 2 % 18446744073709551616 from by omega, Int.mul_assoc p, Int.add_assoc, ← Int.mul_add, e, h, Int.mul_add, Int.mul_left_comm]
theorem Z7k {l : List Int} {n : Int} (h : Ma.Cn 18446744073709551616 l n) {k : Nat} (hb : Ma.blen n ≤ k) : 64 * l.length ≤ k + 64 := by
 rcases Nat.eq_zero_or_pos l.length with h0 | h0
 ·omega
 have := Ma.blen_top (s := 64) h.dg h.tr h0
 rw [show ((2 : Int) ^ 64) = 18446744073709551616 from rfl, h.val] at this
 have := Ma.blen_nonneg (l.getD (l.length - 1) 0)
 omega
theorem twiceB (v : Value) (l : List Int) (hU : U l) (hL : l.length ≤ 17592186044416) (w : World) (hv : IV w v (ints .u64 l)) :
  Z0f P 287 [v] w fun r w' => ∃ v ls, r = v ∧ U ls ∧ ls.length = l.length + 1 ∧ nv ls = 2 * nv l ∧ Grow w w' [As.ri 24 .u64 v ls] := by
 refine Z0o func287 rfl ntmps287 rfl ?_
 have H0 := St.start w
 refine Z03 (Z00 (Zg (Z01 (Z02 ?_))))
 refine Zk [0] ?_
 refine Z03 (Z00 (Zm ?_))
 refine Z0u rfl rfl underlying155 rfl (by first | exact H0.iarg hv | assumption) ?_
 refine Z0y rfl rfl rfl rfl (Z0l ZO) ?_
 refine Z1A (m := l.length + 1) (c := l.length + 1) H0 rfl rfl underlying155 ti24 rfl rfl rfl ZO ZO ZO ZO ZO (fun v1_3 w1 H1 => ?_)
 refine Zg (Z01 (Z02 ?_))
 refine Zk [0, 3] ?_
 refine Z03 (Z03 (Z00 ?_))
 have hw2z := H1.cast (show [As.ro 24 v1_3 (List.replicate (l.length + 1) (Value.int IntKind.u64 0))] = [As.ri 24 .u64 v1_3 (List.replicate (l.length + 1) 0)] from by rw [Z14])
 refine Zm ?_
 refine Z0u rfl rfl underlying155 rfl (by first | exact H1.io mem0 | exact H1.iarg hv | assumption) ?_
 refine Zm (Z01 (Z02 ?_))
 refine Zk [3, 10, 11, 12] ?_
 refine Z0d ?_
 refine Z0z (ι := Nat × List Int) (fun (z0 : Nat × List Int) => match z0 with | ⟨i, o⟩ => l.length - i) (fun (z0 : Nat × List Int) (w' : World) => match z0 with | ⟨i, o⟩ => St w w.heap.size Z0J ([As.ri 24 .u64 v1_3 o]) w' ∧ i ≤ l.length ∧ o.length = l.length + 1 ∧ U o ∧ nv o = 2 * nv (l.take i) ∧ 0 ≤ o.getD i 0 ∧ o.getD i 0 ≤ 1 ∧ (∀ j, i < j → o.getD j 0 = 0)) (fun (z0 : Nat × List Int) => match z0 with | ⟨i, o⟩ => [(12, .int .i64 (i : Int))]) [3, 10, 11] (0, List.replicate (l.length + 1) 0) ?_ (.cons rfl (.cons rfl (.cons rfl .nil))) ?_ ?_
 ·exact ⟨hw2z, ZO, by simp, U.zeros _, by rw [List.take_zero]; show Ma.vb _ _ = 2 * Ma.vb _ _; rw [Ma.vb_zeros]; rfl, by rw [Z4Q]; omega, by rw [Z4Q]; omega, fun j _ => Z4Q _ j⟩
 ·exact (.cons rfl ZN .nil)
 rintro ⟨i, o⟩ w2 ⟨H2, hi, hol, hUo, hval, hoi, hoi1, hoz⟩
 show RunC P _ _ _ (_ :: _) _
 refine Z03 (Z00 ?_)
 refine Zl ?_
 refine Z01 (Z02 (Z03 ?_))
 (first | refine Z0c rfl ?_ ?_ | refine Z08 rfl ?_ ?_) <;> intro hc0
 ·refine Z0a (Z02 ?_)
  refine Zk [3, 10, 11, 12] ?_
  refine Z03 (Z0d (Z03 (Z00 (Zm ?_))))
  refine Z0T (j := i) rfl rfl rfl rfl underlying155 tz24 underlying24 rfl rfl (by first | exact H2.io mem0 | exact H2.iarg hv | assumption) ZA rfl ZO ZI (fun hb4_1 => ?_)
  refine Zg (Zg (Z01 (Z02 ?_)))
  refine Zk [3, 4, 5, 10, 11, 12] ?_
  refine Z03 (Z00 (Zm (Zm ?_)))
  refine Z0T (j := i) rfl rfl rfl rfl underlying155 tz24 underlying24 rfl rfl (by first | exact H2.io mem0 | exact H2.iarg hv | assumption) ZA rfl ZO ZI (fun hb5_2 => ?_)
  refine Zm ?_
  refine Z5I rfl rfl rfl rfl ZO (Z6B (d := 2) (by decide) (Z2H _)) ?_
  refine Z1i rfl rfl rfl rfl rfl (or_one ⟨hoi, hoi1⟩) ?_
  refine Z2o (j := i) rfl rfl underlying155 tz24 rfl rfl (by first | exact H2.io mem0 | exact H2.iarg hv | assumption) ZO ZI (fun A5_7 c5_7 hA5_7 => ?_)
  refine Z1w H2 .head hA5_7 rfl tz24 rfl rfl ZI (fun w3 H3 => ?_)
  refine Z01 (Z02 ?_)
  refine Zk [3, 4, 5, 10, 11, 12] ?_
  refine Z00 (Zm (Zm ?_))
  refine Z0y rfl rfl rfl rfl (Z0l ZO) ?_
  refine Zm ?_
  refine Z3e rfl rfl rfl rfl ZO (Z2b (d := 9223372036854775808) (by decide) (by decide)) ?_
  refine Z2o (j := i + 1) rfl rfl underlying155 tz24 rfl rfl (by first | exact H3.io mem0 | exact H3.iarg hv | assumption) ZO ZI (fun A6_5 c6_5 hA6_5 => ?_)
  refine Z1w H3 .head hA6_5 rfl tz24 rfl rfl ZI (fun w4 H4 => ?_)
  refine Z01 ?_
  refine Z0F ?_
  refine Z02 ?_
  refine Zk [3, 10, 11, 12] ?_
  refine Z00 ?_
  refine Z0y rfl rfl rfl rfl (Z0l ZO) ?_
  refine Zm (Z01 ?_)
  refine Z0p (i := (i, o)) (i + 1, (o.set i (o.getD i 0 + l.getD i 0 * 2 % 18446744073709551616)).set (i + 1) (l.getD i 0 / 9223372036854775808)) ?_ ?_ (.cons rfl (.cons rfl (.cons rfl .nil))) ?_
  ·first | omega | (simp; omega)
  ·have hgx := Z1j hU i
   have hst := set_top (l := o) 0 i (o.getD i 0 + l.getD i 0 * 2 % 18446744073709551616) (l.getD i 0 / 9223372036854775808) ZO (by rw [Nat.zero_add]; exact hoz _ ZO)
   rw [Nat.zero_add] at hst
   refine ⟨H4, ZO, by simpa using hol, (hUo.set ZO _).set ZO _, ?_, ?_, ?_, fun j hj => ?_⟩
   ·rw [hst, show nv (l.take (i + 1)) = nv (l.take i) + 18446744073709551616 ^ i * l.getD i 0 from Ma.vb_take_succ _ _ _]
    exact twice_step hval
   ·rw [Z3w _ _ _ _ _ (by simp; omega), if_pos rfl]; omega
   ·rw [Z3w _ _ _ _ _ (by simp; omega), if_pos rfl]; omega
   rw [Z17 _ ZO, Z17 _ ZO]; exact hoz j ZO
  exact (.cons rfl ZN .nil)
 refine Z0H ?_
 refine Z06 ?_
 refine Z06 ?_
 refine Z0h ?_
 refine Z02 ?_
 refine Zk [3] ?_
 refine Z03 (Z00 (Zm (Zg (Z01 (Z02 ?_)))))
 refine Zk [2] ?_
 refine Z0i ?_
 refine Z0e results287 rfl ?_
 refine ⟨_, rfl, ?_⟩
 obtain rfl : i = l.length := by omega
 rw [List.take_length] at hval
 exact ⟨_, _, rfl, hUo, hol, hval, H2.grows⟩
theorem RndR.zero {H G D : Int} (hH : 1 < H) (hG : 0 < G) (hGo : G % 2 = 1) (hD : 0 < D) : RndR H G 0 D (0, true, 0) := by
 have e0 := Z6N (H := H) ZO
 have e1 : fv H (0 + 1) = 1 := by unfold fv; rw [if_pos ZO]; rfl
 have hu : ¬ upR H 0 D 0 := by unfold upR; rw [e0, e1]; omega
 have := RndR.of (H := H) (G := G) (N := 0) (D := D) (b0 := 0) ZO hD ZO hGo ZO (by rw [e0]; omega) (by rw [e1]; omega)
 rw [if_neg hu, if_pos ZO, e0, decide_eq_true ZO] at this
 exact this
theorem RndR.bd {H G N D : Int} {t : Int × Bool × Int} (hG : 0 ≤ G) (h : RndR H G N D t) : 0 ≤ t.1 ∧ t.1 ≤ G + 1 ∧ (t.2.2 = 0 ∨ t.2.2 = 34) := by
 rcases h with ⟨_, rfl⟩ | ⟨_, b0, h0, h1, _, _, rfl⟩
 ·exact ⟨by decide, by show (0 : Int) ≤ G + 1; omega, .inr rfl⟩
 by_cases hu : upR H N D b0
 ·rw [if_pos hu]; exact ⟨by show 0 ≤ b0 + 1; omega, by show b0 + 1 ≤ G + 1; omega, .inl rfl⟩
 rw [if_neg hu]; exact ⟨h0, by show b0 ≤ G + 1; omega, .inl rfl⟩
def sgR (d : Kd) (neg : Bool) (t : Int × Bool × Int) : Int × Bool × Int := if t.2.2 = 0 then (if neg then t.1 + d.S else t.1, t.2.1, 0) else (0, false, t.2.2)
def Z54 (k : Int) (neg : Bool) (x y : Int) (r : Int × Bool × Int) : Prop := match kd k with
 | none => r = (0, false, 30)
 | some d => if 8192 < Ma.blen x ∨ 8192 < Ma.blen y then r = (0, false, 21) else if y = 0 then r = (0, false, 33) else ∃ t, RndR d.H (d.I - 1) (x * 2 ^ d.l) y t ∧ r = sgR d neg t
theorem Z54.unique {k : Int} {neg : Bool} {x y : Int} {r s : Int × Bool × Int} (hy : 0 ≤ y) (h : Z54 k neg x y r) (g : Z54 k neg x y s) : r = s := by
 unfold Z54 at h g
 cases hk : kd k with
 | none => simp only [hk] at h g; rw [h, g]
 | some d =>
  simp only [hk] at h g
  by_cases h1 : 8192 < Ma.blen x ∨ 8192 < Ma.blen y
  ·rw [if_pos h1] at h g; rw [h, g]
  rw [if_neg h1] at h g
  by_cases h2 : y = 0
  ·rw [if_pos h2] at h g; rw [h, g]
  rw [if_neg h2] at h g
  obtain ⟨t, ht, rfl⟩ := h
  obtain ⟨u, hu, rfl⟩ := g
  rw [ht.unique d.hH0 ZO hu]
def Z5V (k : Int) (neg : Bool) (man exp : Int) (r : Int × Bool × Int) : Prop := match kd k with
 | none => r = (0, false, 30)
 | some d => ∃ t, RndR d.H (d.I - 1) (man * 2 ^ (max (min exp 2000) (-2000)).toNat * 2 ^ d.l) (2 ^ (-(max (min exp 2000) (-2000))).toNat) t ∧ r = sgR d neg t
theorem Z5V.unique {k : Int} {neg : Bool} {m e : Int} {r s : Int × Bool × Int} (h : Z5V k neg m e r) (g : Z5V k neg m e s) : r = s := by
 unfold Z5V at h g
 cases hk : kd k with
 | none => simp only [hk] at h g; rw [h, g]
 | some d =>
  simp only [hk] at h g
  obtain ⟨t, ht, rfl⟩ := h
  obtain ⟨u, hu, rfl⟩ := g
  rw [ht.unique d.hH0 (p2 _) hu]
theorem shlS_ok {x n : Int} (hx : Ma.blen x ≤ 8192) (hn : 0 ≤ n) (h : Ma.blen x + n ≤ 8192) : shlS x n = (0, x * 2 ^ n.toNat) := by
 unfold shlS
 rw [if_neg ZO, if_neg ZO]
 split
 ·rename_i h0; rw [h0, Int.zero_mul]
 rw [if_neg ZO]
theorem ratio_end {n0 dn man n : Int} (hd : 0 < dn) (h : n0 * 18446744073709551616 = man * (2 * dn) + n) (hn : 0 ≤ n ∧ n < 2 * dn) (h2 : dn < 2 * n0) : (n0 * 2 ^ 63 = man * dn + n / 2) ∧ 0 ≤ n / 2 ∧ n / 2 < dn ∧ (0 < n ↔ 0 < n / 2) ∧ 2 ^ 62 ≤ man := by
 rw [show (2 : Int) ^ 63 = 9223372036854775808 by rfl, show (2 : Int) ^ 62 = 4611686018427387904 by rfl]
 have e : man * (2 * dn) = 2 * (man * dn) := Int.mul_left_comm ..
 rw [e] at h
 refine ⟨ZO, ZO, ZO, ZO, ?_⟩
 have h3 : dn * 4611686018427387904 < (man + 1) * dn := by rw [Int.add_mul]; omega
 rw [Int.mul_comm dn] at h3
 have := Int.lt_of_mul_lt_mul_right h3 (Int.le_of_lt hd)
 omega
theorem ratio_step0 {n0 dn man n : Int} {i : Nat} (h : n0 * 2 ^ i = man * (2 * dn) + n) : n0 * 2 ^ (i + 1) = man * 2 * (2 * dn) + 2 * n := by
 rw [Int.pow_succ, ← Int.mul_assoc, h, Int.add_mul, Int.mul_right_comm man, Int.mul_comm n]
theorem ratio_step1 {n0 dn man n : Int} {i : Nat} (h : n0 * 2 ^ i = man * (2 * dn) + n) : n0 * 2 ^ (i + 1) = (man * 2 + 1) * (2 * dn) + 2 * (n - dn) := by
 rw [ratio_step0 h, Int.add_mul (man * 2), Int.one_mul]; omega
theorem ratioB (va vb : Value) (la lb : List Int) (hUa : U la) (hUb : U lb) (hLa : la.length ≤ 68719476736) (hLb : lb.length ≤ 68719476736) (ha0 : 0 < nv la) (hb0 : 0 < nv lb) (hba : Ma.blen (nv la) ≤ 8192) (hbb : Ma.blen (nv lb) ≤ 8192) (w : World) (ha : IV w va (ints .u64 la)) (hb : IV w vb (ints .u64 lb)) :
  Z0f P 270 [va, vb] w fun r w' => ∃ man exp some, r = .tuple #[.int .u64 man, .int .i64 exp, .bool some] ∧ (0 ≤ man ∧ man ≤ 18446744073709551615) ∧ (-20000 ≤ exp ∧ exp ≤ 20000) ∧ (∀ d : Kd, RndR d.H (d.I - 1) (nv la * 2 ^ d.l) (nv lb) (Z5h d man exp some)) ∧ Grow w w' [] := by
 refine Z0o func270 rfl ntmps270 rfl ?_
 have H0 := St.start w
 have hbp := Ma.blen_pos ha0
 have hbq := Ma.blen_pos hb0
 refine Z03 (Z00 (Zg (Zg (Zg (Z01 (Z02 ?_))))))
 refine Zk [0, 1, 4] ?_
 refine Z03 (Z00 (Zm ?_))
 refine Zp func250 (lenV hUa ZO (H0.iarg ha)) ?_
 refine Zm ?_
 refine Zp func250 (lenV hUb ZO (H0.iarg hb)) ?_
 refine Z0W rfl rfl rfl rfl (Z0l ZO) ?_
 refine Zg (Z01 (Z02 ?_))
 refine Zk [0, 1, 4, 5] ?_
 refine Z03 (Z00 (Zm (Zm ?_)))
 refine Z5M rfl rfl rfl (Z0l ZO) ?_
 refine Z5T rfl rfl rfl rfl ?_
 refine Z0I rfl rfl func249 rfl rfl (.cons rfl (.cons rfl .nil)) (ShlN va la hUa hLa _ w (H0.iarg ha)) ?_
 rintro _ w1 ⟨vn0, ln0, rfl, hcn0, hG⟩
 have H1 := hG _ _ _ _ H0
 simp only [Zca, Zna] at H1
 rw [shlS_ok hba ZO ZO] at hcn0
 refine Zm ?_
 refine Zx (Zx (Zg (Z01 (Z02 ?_))))
 refine Zk [0, 1, 4, 5] ?_
 refine Z03 (Z00 (Zm (Zm ?_)))
 refine Z5T rfl rfl rfl rfl ?_
 refine Z0I rfl rfl func249 rfl rfl (.cons rfl (.cons rfl .nil)) (ShlN vb lb hUb hLb _ w1 (H1.iarg hb)) ?_
 rintro _ w2 ⟨vd, ld, rfl, hcd, hG⟩
 have H2 := hG _ _ _ _ H1
 simp only [Zca, Zna] at H2
 rw [shlS_ok hbb ZO ZO] at hcd
 refine Zm ?_
 refine Zx (Zx (Zg (Z01 (Z02 ?_))))
 refine Zk [0, 1, 4, 5] ?_
 refine Z03 (Z03 (Z00 ?_))
 obtain ⟨n0, hn0⟩ : ∃ n0, n0 = nv la * 2 ^ (max (0 - (Ma.blen (nv la) - Ma.blen (nv lb))) 0).toNat := ⟨_, rfl⟩
 obtain ⟨dn, hdn⟩ : ∃ dn, dn = nv lb * 2 ^ (max (Ma.blen (nv la) - Ma.blen (nv lb)) 0).toNat := ⟨_, rfl⟩
 simp only at hcn0 hcd
 rw [← hn0] at hcn0
 rw [← hdn] at hcd
 have hn0p : 0 < n0 := by rw [hn0]; exact Int.mul_pos ha0 (p2 _)
 have hdnp : 0 < dn := by rw [hdn]; exact Int.mul_pos hb0 (p2 _)
 have hbn : Ma.blen n0 = max (Ma.blen (nv la)) (Ma.blen (nv lb)) := by rw [hn0, Z71 ha0]; omega
 have hbd : Ma.blen dn = max (Ma.blen (nv la)) (Ma.blen (nv lb)) := by rw [hdn, Z71 hb0]; omega
 have hvn0 : nv ln0 = n0 := hcn0.val
 obtain ⟨kb, hkb, hkb1, hkb2⟩ := Ma.blen_spec hn0p
 obtain ⟨kd, hkd, hkd1, hkd2⟩ := Ma.blen_spec hdnp
 obtain rfl : kd = kb := by omega
 rw [Int.pow_succ] at hkb2 hkd2
 have hln0 := Z7k hcn0 (k := 8192) ZO
 have hld := Z7k hcd (k := 8192) ZO
 have H3 := St.frontL (l := [_]) H2
 simp only [Zca, Zna] at H3
 refine Zm (Z01 (Z02 (Z0d ?_)))
 refine Z0z (ι := Nat × Int × Value × List Int) (fun (z0 : Nat × Int × Value × List Int) => match z0 with | ⟨i, man, vn, ln⟩ => 64 - i) (fun (z0 : Nat × Int × Value × List Int) (w' : World) => match z0 with | ⟨i, man, vn, ln⟩ => St w w.heap.size Z0J ([As.ri 24 .u64 vn ln, As.ri 24 .u64 vd ld]) w' ∧ i ≤ 64 ∧ U ln ∧ ln.length ≤ 200 + i ∧ 0 ≤ nv ln ∧ nv ln < 2 * dn ∧ n0 * 2 ^ i = man * (2 * dn) + nv ln ∧ 0 ≤ man ∧ man < 2 ^ i) (fun (z0 : Nat × Int × Value × List Int) => match z0 with | ⟨i, man, vn, ln⟩ => [(0, vn), (4, .int .u64 man), (29, .int .i64 (i : Int))]) [1, 5] (0, 0, vn0, ln0) ?_ (.cons rfl (.cons rfl .nil)) ?_ ?_
 ·exact ⟨H3, ZO, U.of_dg hcn0.dg, ZO, ZO, ZO, by rw [hvn0]; simp, ZO, by decide⟩
 ·exact (.cons rfl ZN (.cons rfl ZN (.cons rfl ZN .nil)))
 rintro ⟨i, man, vn, ln⟩ w4 ⟨H4, hi, hUn, hln, hnn, hn2d, hiv, hm0, hmi⟩
 show RunC P _ _ _ (_ :: _) _
 have h63i : i < 64 → man ≤ 9223372036854775807 := fun h => by
  have := Ma.pow_mono (show (1 : Int) ≤ 2 by omega) (show i ≤ 63 by omega)
  rw [show (2 : Int) ^ 63 = 9223372036854775808 by rfl] at this
  omega
 have hvd : nv ld = dn := hcd.val
 have h63 := Ma.pow_mono (show (1 : Int) ≤ 2 by omega) (show i ≤ 64 by omega)
 refine Z03 (Z00 ?_)
 refine Zl ?_
 refine Z01 (Z02 (Z03 ?_))
 (first | refine Z0c rfl ?_ ?_ | refine Z08 rfl ?_ ?_) <;> intro hc0
 ·refine Z0a (Z02 ?_)
  refine Zk [0, 1, 4, 5, 29] ?_
  refine Z03 (Z0d (Z03 (Z00 ?_)))
  have h63j := h63i ZO
  refine Zm ?_
  refine Z5I rfl rfl rfl rfl ZO (Z6B (d := 2) (by decide) (Z1p ZO)) ?_
  refine Zg (Z01 (Z02 ?_))
  refine Zk [0, 1, 4, 5, 29] ?_
  refine Z03 (Z03 (Z00 (Zm (Zm ?_))))
  refine Zc func238 (subN vn vd ln ld hUn (U.of_dg hcd.dg) ZO ZO w4 (H4.io mem0) (H4.io mem1)) ?_
  rintro _ w5 ⟨vs, ls, rfl, hcs, hG⟩
  have H5 := hG _ _ _ _ H4
  simp only [Zca, Zna] at H5
  refine Zm ?_
  refine Zx (Zx (Zg (Zg (Z01 (Z02 ?_)))))
  refine Zk [0, 1, 4, 5, 7, 8, 29] ?_
  refine Z03 (Z00 (Zm (Z01 (Z02 ?_))))
  refine Zk [0, 1, 4, 5, 7, 29, 39] ?_
  (first | refine Z0c rfl ?_ ?_ | refine Z08 rfl ?_ ?_) <;> intro hc1
  ·refine Z03 (Z00 ?_)
   rw [if_pos hc1] at hcs
   have hvs := hcs.val
   change nv ls = _ at hvs
   have hsl := Z7k hcs (k := 8192) (by have := Ma.blen_mono (show 0 ≤ nv ln - nv ld by omega) (show nv ln - nv ld ≤ dn by omega); omega)
   refine Zm ?_
   refine Z1i rfl rfl rfl rfl rfl (or_1 (by have := h63i ZO; omega)) ?_
   refine Zg (Z01 (Z02 ?_))
   refine Zk [1, 4, 5, 7, 29] ?_
   refine Z00 (Zm (Zg (Z01 (Z02 ?_))))
   refine Zk [0, 1, 4, 5, 29] ?_
   refine Z00 (Zm ?_)
   refine Zc func287 (twiceB vs ls (U.of_dg hcs.dg) ZO w5 (H5.io mem0)) ?_
   rintro v2 w6 ⟨_, l2, rfl, hU2, hl2, hn2, hG⟩
   have H6 := hG _ _ _ _ H5
   simp only [Zca, Zna] at H6
   refine Zg (Z01 ?_)
   refine Z0F ?_
   refine Z02 ?_
   refine Zk [0, 1, 4, 5, 29] ?_
   refine Z00 ?_
   have H8 := St.del (.tail .head) (St.del (.tail .head) H6)
   refine Z0y rfl rfl rfl rfl (Z0l ZO) ?_
   refine Zm (Z01 ?_)
   refine Z0p (i := (i, man, vn, ln)) (i + 1, man * 2 + 1, v2, l2) ?_ ?_ (.cons rfl (.cons rfl .nil)) ?_
   ·first | omega | (simp; omega)
   ·refine ⟨H8, ZO, hU2, ZO, ZO, ZO, ?_, ZO, by rw [Int.pow_succ]; omega⟩
    rw [hn2, hvs, hvd]
    exact ratio_step1 hiv
   exact (.cons rfl ZN (.cons rfl ZN (.cons rfl ZN .nil)))
  refine Z0a (Z02 ?_)
  refine Zk [0, 1, 4, 5, 29] ?_
  refine Z00 (Zm ?_)
  refine Zc func287 (twiceB vn ln hUn ZO w5 (H5.io mem1)) ?_
  rintro v2 w9 ⟨_, l2, rfl, hU2, hl2, hn2, hG⟩
  have H9 := hG _ _ _ _ H5
  simp only [Zca, Zna] at H9
  refine Zg (Z01 ?_)
  refine Z0F ?_
  refine Z02 ?_
  refine Zk [0, 1, 4, 5, 29] ?_
  refine Z00 ?_
  have H11 := St.del (.tail .head) (St.del (.tail .head) H9)
  refine Z0y rfl rfl rfl rfl (Z0l ZO) ?_
  refine Zm (Z01 ?_)
  refine Z0p (i := (i, man, vn, ln)) (i + 1, man * 2, v2, l2) ?_ ?_ (.cons rfl (.cons rfl .nil)) ?_
  ·first | omega | (simp; omega)
  ·refine ⟨H11, ZO, hU2, ZO, ZO, ZO, ?_, ZO, by rw [Int.pow_succ]; omega⟩
   rw [hn2]
   exact ratio_step0 hiv
  exact (.cons rfl ZN (.cons rfl ZN (.cons rfl ZN .nil)))
 refine Z0H ?_
 refine Z06 ?_
 refine Z06 ?_
 refine Z0h ?_
 refine Z02 ?_
 refine Zk [0, 4, 5] ?_
 refine Z03 (Z00 (Zm (Zm ?_)))
 refine Z0W rfl rfl rfl rfl (Z0l ZO) ?_
 refine Zm ?_
 refine Zp func250 (lenV hUn ZO (H4.io mem0)) ?_
 refine Zw ?_
 refine Zg (Zg (Zg (Z01 (Z02 ?_))))
 refine Zk [4, 5, 6] ?_
 refine Z0i ?_
 refine Z12 results270 (.tmp rfl (.tmp rfl (.tmp rfl .nil))) rfl ?_
 refine ⟨_, rfl, ?_⟩
 have H13 := St.del .head (St.del (.tail .head) H4)
 obtain rfl : i = 64 := by omega
 rw [show (2 : Int) ^ 64 = 18446744073709551616 by rfl] at hiv hmi
 obtain ⟨g1, g2, g3, g4, g5⟩ := ratio_end hdnp hiv ⟨hnn, hn2d⟩ ZO
 refine ⟨_, _, _, rfl, ⟨hm0, ZO⟩, ZO, fun d => ?_, H13.grows⟩
 refine ratio_rnd d ha0 hb0 rfl ⟨g5, hmi⟩ ?_ ⟨g2, ?_⟩ ?_
 ·rw [show (-(Ma.blen (nv la) - Ma.blen (nv lb))).toNat = (max (0 - (Ma.blen (nv la) - Ma.blen (nv lb))) 0).toNat by omega, show (Ma.blen (nv la) - Ma.blen (nv lb)).toNat = (max (Ma.blen (nv la) - Ma.blen (nv lb)) 0).toNat by omega, ← hn0, ← hdn]
  exact g1
 ·rw [show (Ma.blen (nv la) - Ma.blen (nv lb)).toNat = (max (Ma.blen (nv la) - Ma.blen (nv lb)) 0).toNat by omega, ← hdn]
  exact g3
 rw [decide_eq_true_iff, ← g4]
 constructor
 ·intro h
  rcases Int.lt_or_le 0 (nv ln) with h' | h'
  ·exact h'
  rw [show nv ln = 0 by omega, Ma.blen_zero] at h; omega
 exact Ma.blen_pos
theorem Z6u {x : Int} (h : 0 ≤ x) : Ma.blen x = 0 ↔ x = 0 := by
 constructor
 ·intro hb
  rcases Int.lt_or_eq_of_le h with h1 | h1
  ·have := Ma.blen_pos h1; omega
  exact h1.symm
 intro hx; rw [hx, Ma.blen_zero]
theorem Z54.none {k : Int} {neg : Bool} {x y : Int} (h : kd k = none) : Z54 k neg x y (0, false, 30) := by unfold Z54; rw [h]
theorem Z54.long {k : Int} {neg : Bool} {x y : Int} {d : Kd} (h : kd k = some d) (hl : 8192 < Ma.blen x ∨ 8192 < Ma.blen y) : Z54 k neg x y (0, false, 21) := by unfold Z54; rw [h]; show (if _ then _ else _); rw [if_pos hl]
theorem Z54.nil {k : Int} {neg : Bool} {x y : Int} {d : Kd} (h : kd k = some d) (hl : ¬ (8192 < Ma.blen x ∨ 8192 < Ma.blen y)) (h0 : y = 0) : Z54 k neg x y (0, false, 33) := by
 unfold Z54; rw [h]; show (if _ then _ else _); rw [if_neg hl, if_pos h0]
theorem Z54.is {k : Int} {neg : Bool} {x y : Int} {d : Kd} {t : Int × Bool × Int} (h : kd k = some d) (hl : ¬ (8192 < Ma.blen x ∨ 8192 < Ma.blen y)) (h0 : ¬ y = 0) (ht : RndR d.H (d.I - 1) (x * 2 ^ d.l) y t) : Z54 k neg x y (sgR d neg t) := by
 unfold Z54; rw [h]; show (if _ then _ else _); rw [if_neg hl, if_neg h0]; exact ⟨t, ht, rfl⟩
theorem Z5V.none {k : Int} {neg : Bool} {x y : Int} (h : kd k = none) : Z5V k neg x y (0, false, 30) := by unfold Z5V; rw [h]
theorem Z5V.is {k : Int} {neg : Bool} {m e : Int} {d : Kd} {t : Int × Bool × Int} (h : kd k = some d) (ht : RndR d.H (d.I - 1) (m * 2 ^ (max (min e 2000) (-2000)).toNat * 2 ^ d.l) (2 ^ (-(max (min e 2000) (-2000))).toNat) t) : Z5V k neg m e (sgR d neg t) := by
 unfold Z5V; rw [h]; exact ⟨t, ht, rfl⟩
theorem Z6L {d : Kd} {neg : Bool} {t : Int × Bool × Int} (h : t.2.2 = 0) : sgR d neg t = (if neg then t.1 + d.S else t.1, t.2.1, 0) := if_pos h
theorem sgR_no {d : Kd} {neg : Bool} {t : Int × Bool × Int} (h : ¬ t.2.2 = 0) : sgR d neg t = (0, false, t.2.2) := if_neg h
theorem roundB (k : Int) (neg : Bool) (vx vy : Value) (lx ly : List Int) (hUx : U lx) (hUy : U ly) (hLx : lx.length ≤ 68719476736) (hLy : ly.length ≤ 68719476736) (w : World) (hvx : IV w vx (ints .u64 lx)) (hvy : IV w vy (ints .u64 ly)) :
  Z0f P 244 [.int .i64 k, .bool neg, vx, vy] w fun r w' => ∃ res : Int × Bool × Int, r = .tuple #[.int .u64 res.1, .bool res.2.1, .int .i64 res.2.2] ∧ Z54 k neg (nv lx) (nv ly) res ∧ Grow w w' [] := by
 refine Z0o func244 rfl ntmps244 rfl ?_
 have H0 := St.start w
 have hx0 := hUx.nv_nonneg
 have hy0 := hUy.nv_nonneg
 refine Z03 (Z00 (Zg (Zg (Zg (Z01 (Z02 ?_))))))
 refine Zk [0, 1, 2, 3] ?_
 refine Z03 (Z00 (Zm ?_))
 refine Zc func109 (Z7m k w) ?_
 rintro _ w1 ⟨m, l, a, sok, rfl, hSh, hG⟩
 have H1 := hG _ _ _ _ H0
 simp only [Zca, Zna] at H1
 refine Zm ?_
 refine Zx (Zx ?_)
 refine Z0X H1 ta158 rfl rfl (fun b1_5 w2 H2 => ?_)
 refine Z0m H2 .head (.zero (.zero (.zero .nil))) rfl Z5y rfl rfl ZC (fun w3 H3 => ?_)
 refine Zg (Z01 (Z02 ?_))
 refine Zk [1, 2, 3, 11, 12] ?_
 refine Z03 (Z0d (Z03 (Z00 (Zm ?_))))
 first | refine Z38 rfl rfl rfl ?_ | refine Z3v rfl rfl rfl ?_
 refine Zg (Z01 (Z02 ?_))
 refine Zk [1, 2, 3, 11, 18] ?_
 (first | refine Z0c rfl ?_ ?_ | refine Z08 rfl ?_ ?_) <;> intro hc0
 ·have hno : kd k = none := by
   rw [hSh.is] at hc0
   cases h : kd k with
   | none => rfl
   | some d => rw [h] at hc0; simp at hc0
  refine Z03 (Z00 (Zg (Zg (Zg (Z01 (Z02 ?_))))))
  refine Zk [8, 9, 10] ?_
  refine Z0i ?_
  refine Z0k ?_
  refine Z07 ?_
  refine Z12 results244 (.tmp rfl (.tmp rfl (.tmp rfl .nil))) rfl ?_
  refine ⟨_, rfl, ?_⟩
  have H4 := St.del .head H3
  exact ⟨_, rfl, Z54.none hno, H4.grows⟩
 obtain ⟨d, hd⟩ : ∃ d, kd k = some d := by
  rw [hSh.is] at hc0
  cases h : kd k with
  | none => rw [h] at hc0; simp at hc0
  | some d => exact ⟨d, rfl⟩
 obtain ⟨rfl, rfl, rfl⟩ := hSh.at hd
 have hbd := d.bd
 refine Z03 (Z00 (Zm ?_))
 refine Zp func250 (lenV hUx ZO (H3.iarg hvx)) ?_
 refine Zw ?_
 refine Zm ?_
 apply l_or 3 [1, 2, 3, 11] rfl rfl (.cons rfl (.cons rfl (.cons rfl (.cons rfl (.cons rfl .nil))))) rfl rfl (fun _ => rfl) rfl rfl rfl
 ·intro hg4_4
  refine Zm ?_
  refine Zp func250 (lenV hUy ZO (H3.iarg hvy)) ?_
  refine Zw ?_
  refine Z01 ?_
  exact Z0O rfl (.cons rfl (ZF hg4_4) (.cons rfl rfl (.cons rfl rfl (.cons rfl rfl (.cons rfl rfl .nil)))))
 refine Zg (Z01 (Z02 ?_))
 refine Zk [1, 2, 3, 11, 21] ?_
 (first | refine Z0c rfl ?_ ?_ | refine Z08 rfl ?_ ?_) <;> intro hc1
 ·refine Z03 (Z00 (Zg (Zg (Zg (Z01 (Z02 ?_))))))
  refine Zk [8, 9, 10] ?_
  refine Z0i ?_
  refine Z0k ?_
  refine Z07 ?_
  refine Z12 results244 (.tmp rfl (.tmp rfl (.tmp rfl .nil))) rfl ?_
  refine ⟨_, rfl, ?_⟩
  have H5 := St.del .head H3
  exact ⟨_, rfl, Z54.long hd hc1, H5.grows⟩
 refine Z03 (Z00 (Zm ?_))
 refine Zp func250 (lenV hUy ZO (H3.iarg hvy)) ?_
 refine Ze ?_
 refine Zg (Z01 (Z02 ?_))
 refine Zk [1, 2, 3, 11, 30] ?_
 (first | refine Z0c rfl ?_ ?_ | refine Z08 rfl ?_ ?_) <;> intro hc2
 ·have hy1 : nv ly = 0 := (Z6u hy0).1 hc2
  refine Z03 (Z00 (Zg (Zg (Zg (Z01 (Z02 ?_))))))
  refine Zk [8, 9, 10] ?_
  refine Z0i ?_
  refine Z0k ?_
  refine Z07 ?_
  refine Z12 results244 (.tmp rfl (.tmp rfl (.tmp rfl .nil))) rfl ?_
  refine ⟨_, rfl, ?_⟩
  have H6 := St.del .head H3
  exact ⟨_, rfl, Z54.nil hd hc1 hy1, H6.grows⟩
 have hy1 : ¬ nv ly = 0 := fun h => hc2 ((Z6u hy0).2 h)
 refine Z03 (Z00 (Zm ?_))
 refine Zp func250 (lenV hUx ZO (H3.iarg hvx)) ?_
 refine Ze ?_
 refine Zg (Z01 (Z02 ?_))
 refine Zk [1, 2, 3, 11, 34] ?_
 (first | refine Z0c rfl ?_ ?_ | refine Z08 rfl ?_ ?_) <;> intro hc3
 ·have hx1 : nv lx = 0 := (Z6u hx0).1 hc3
  refine Z03 (Z00 ?_)
  refine Z1b H3 mem0 rfl rfl underlying158 rfl Z5y rfl (.take (.take (.take .nil))) ?_
  refine Zm ?_
  refine Zc func248 (Z6P d neg 0 ZO w3) ?_
  rintro _ w7 ⟨rfl, hG⟩
  have H7 := hG _ _ _ _ H3
  simp only [Zca, Zna] at H7
  refine Zg (Zg (Zg (Z01 (Z02 ?_))))
  refine Zk [8, 9, 10] ?_
  refine Z0i ?_
  refine Z0k ?_
  refine Z07 ?_
  refine Z12 results244 (.tmp rfl (.tmp rfl (.tmp rfl .nil))) rfl ?_
  refine ⟨_, rfl, ?_⟩
  have H8 := St.del .head H7
  refine ⟨(if neg = true then 0 + d.S else 0, true, 0), rfl, ?_, H8.grows⟩
  have hz := RndR.zero (H := d.H) (G := d.I - 1) (D := nv ly) d.I_lt.2.2 d.I_lt.1 d.I_lt.2.1 ZO
  have hr := Z54.is (neg := neg) (x := nv lx) (y := nv ly) hd hc1 hy1 (t := (0, true, 0)) (by rw [hx1, Int.zero_mul]; exact hz)
  rw [Z6L rfl] at hr
  exact hr
 have hx1 : ¬ nv lx = 0 := fun h => hc3 ((Z6u hx0).2 h)
 have hxp : 0 < nv lx := by omega
 have hyp : 0 < nv ly := by omega
 refine Z0a ?_
 refine Z0F ?_
 refine Z02 ?_
 refine Zk [1, 2, 3, 11] ?_
 refine Z03 ?_
 have H9 := H3.drewn
 refine Z1a (n := 15) [Zz,Zz,Zz,Zz,Zz,Zz,Zz,Zz,Zz,Zz,Zz,Zz,Zz,Zz,Zz] (fun wS => (As.blk b1_5 158 [.int .i64 (d.M : Int), .int .i64 (-(d.l : Int)), .int .i64 (d.A : Int)]).ok wS) ZK rfl rfl ?_
 apply Zu (L' := [Zy,Zz,Zz,Zz,Zz,Zz,Zz,Zz,Zz,Zz,Zz,Zz,Zz,Zz,Zz]) 0 (H9.ok mem0)
 ·intro wS sS
  refine Z1b (Z0r sS) mem0 rfl rfl underlying158 rfl Z5y rfl (.take (.take (.take .nil))) ?_
  refine Z01 ?_
  exact Z04 rfl
 apply Zu (L' := [Zy,Zy,Zz,Zz,Zz,Zz,Zz,Zz,Zz,Zz,Zz,Zz,Zz,Zz,Zz]) 1 (H9.ok mem0)
 ·intro wS sS
  refine Zm (Z01 ?_)
  exact Z04 rfl
 apply Zu (L' := [Zy,Zy,Zy,Zz,Zz,Zz,Zz,Zz,Zz,Zz,Zz,Zz,Zz,Zz,Zz]) 2 (H9.ok mem0)
 ·intro wS sS
  refine Zm (Z01 ?_)
  exact Z04 rfl
 refine Z0v (L' := [Zy,Zy,Zy,Zy,Zz,Zz,Zz,Zz,Zz,Zz,Zz,Zz,Zz,Zz,Zz]) 3 ZK rfl rfl ?_
 refine Zc func270 (ratioB vx vy lx ly hUx hUy hLx hLy hxp hyp ZO ZO w3.drew (H9.iarg hvx) (H9.iarg hvy)) ?_
 rintro _ w10 ⟨man, exp, some, rfl, hman, hexp, hrnd, hG⟩
 have H10 := hG _ _ _ _ H9
 simp only [Zca, Zna] at H10
 refine Z01 ?_
 refine Z0n (H10.ok mem0) ?_
 apply Zu (L' := [Zy,Zy,Zy,Zy,Zy,Zz,Zz,Zz,Zz,Zz,Zz,Zz,Zz,Zz,Zz]) 4 (H10.ok mem0)
 ·intro wS sS
  refine Zx (Z01 ?_)
  exact Z04 rfl
 apply Zu (L' := [Zy,Zy,Zy,Zy,Zy,Zy,Zz,Zz,Zz,Zz,Zz,Zz,Zz,Zz,Zz]) 5 (H10.ok mem0)
 ·intro wS sS
  refine Zx (Z01 ?_)
  exact Z04 rfl
 apply Zu (L' := [Zy,Zy,Zy,Zy,Zy,Zy,Zy,Zz,Zz,Zz,Zz,Zz,Zz,Zz,Zz]) 6 (H10.ok mem0)
 ·intro wS sS
  refine Zx (Z01 ?_)
  exact Z04 rfl
 refine Z0v (L' := [Zy,Zy,Zy,Zy,Zy,Zy,Zy,Zy,Zz,Zz,Zz,Zz,Zz,Zz,Zz]) 7 ZK rfl rfl ?_
 refine Zc func260 (packB d man exp some hman ZO w10) ?_
 rintro _ w11 ⟨rfl, hG⟩
 have H11 := hG _ _ _ _ H10
 simp only [Zca, Zna] at H11
 refine Z01 ?_
 refine Z0n (H11.ok mem0) ?_
 apply Zu (L' := [Zy,Zy,Zy,Zy,Zy,Zy,Zy,Zy,Zy,Zz,Zz,Zz,Zz,Zz,Zz]) 8 (H11.ok mem0)
 ·intro wS sS
  refine Zm (Z01 ?_)
  exact Z04 rfl
 apply Zu (L' := [Zy,Zy,Zy,Zy,Zy,Zy,Zy,Zy,Zy,Zy,Zz,Zz,Zz,Zz,Zz]) 9 (H11.ok mem0)
 ·intro wS sS
  refine Zx (Z01 ?_)
  exact Z04 rfl
 apply Zu (L' := [Zy,Zy,Zy,Zy,Zy,Zy,Zy,Zy,Zy,Zy,Zy,Zz,Zz,Zz,Zz]) 10 (H11.ok mem0)
 ·intro wS sS
  refine Zx (Z01 ?_)
  exact Z04 rfl
 apply Zu (L' := [Zy,Zy,Zy,Zy,Zy,Zy,Zy,Zy,Zy,Zy,Zy,Zy,Zz,Zz,Zz]) 11 (H11.ok mem0)
 ·intro wS sS
  refine Zx (Z01 ?_)
  exact Z04 rfl
 apply Zu (L' := [Zy,Zy,Zy,Zy,Zy,Zy,Zy,Zy,Zy,Zy,Zy,Zy,Zy,Zz,Zz]) 12 (H11.ok mem0)
 ·intro wS sS
  refine Zg (Z01 ?_)
  exact Z04 rfl
 apply Zu (L' := [Zy,Zy,Zy,Zy,Zy,Zy,Zy,Zy,Zy,Zy,Zy,Zy,Zy,Zy,Zz]) 13 (H11.ok mem0)
 ·intro wS sS
  refine Zg (Z01 ?_)
  exact Z04 rfl
 apply Zu (L' := [Zy,Zy,Zy,Zy,Zy,Zy,Zy,Zy,Zy,Zy,Zy,Zy,Zy,Zy,Zy]) 14 (H11.ok mem0)
 ·intro wS sS
  refine Zg (Z01 ?_)
  exact Z04 rfl
 refine Z0B ZK ?_
 refine Z02 ?_
 refine Zk [1, 8, 9, 10, 11] ?_
 refine Z03 (Z03 (Z00 ?_))
 have ht := (hrnd d).bd (by have := d.I_lt; omega)
 refine Zm ?_
 refine Zo ?_
 refine Z01 (Z02 ?_)
 refine Zk [1, 8, 9, 10, 11, 54] ?_
 (first | refine Z0c rfl ?_ ?_ | refine Z08 rfl ?_ ?_) <;> intro hc4
 ·refine Z03 (Z00 (Zm (Zg (Zg (Zg (Z01 (Z02 ?_)))))))
  refine Zk [8, 9, 10] ?_
  refine Z0i ?_
  refine Z07 ?_
  refine Z12 results244 (.tmp rfl (.tmp rfl (.tmp rfl .nil))) rfl ?_
  refine ⟨_, rfl, ?_⟩
  have H12 := St.del .head H11
  refine ⟨(0, false, (Z5h d man exp some).2.2), rfl, ?_, H12.grows⟩
  have hr := Z54.is (neg := neg) hd hc1 hy1 (hrnd d)
  rw [sgR_no hc4] at hr
  exact hr
 refine Z0a (Z02 ?_)
 refine Zk [1, 8, 9, 11] ?_
 refine Z03 (Z00 ?_)
 refine Z1b H11 mem0 rfl rfl underlying158 rfl Z5y rfl (.take (.take (.take .nil))) ?_
 refine Zm (Zm ?_)
 refine Zc func248 (Z6P d neg (Z5h d man exp some).1 ZO w11) ?_
 rintro _ w13 ⟨rfl, hG⟩
 have H13 := hG _ _ _ _ H11
 simp only [Zca, Zna] at H13
 refine Zm (Zg (Zg (Zg (Z01 (Z02 ?_)))))
 refine Zk [8, 9, 10] ?_
 refine Z0i ?_
 refine Z12 results244 (.tmp rfl (.tmp rfl (.tmp rfl .nil))) rfl ?_
 refine ⟨_, rfl, ?_⟩
 have H14 := St.del .head H13
 refine ⟨(if neg = true then (Z5h d man exp some).1 + d.S else (Z5h d man exp some).1, (Z5h d man exp some).2.1, 0), rfl, ?_, H14.grows⟩
 have hr := Z54.is (neg := neg) hd hc1 hy1 (hrnd d)
 rw [Z6L ZO] at hr
 exact hr
theorem joinB (k : Int) (neg : Bool) (man exp : Int) (hm : 0 ≤ man ∧ man ≤ 18446744073709551615) (he : -9223372036854775808 ≤ exp ∧ exp ≤ 9223372036854775807) (w : World) :
  Z0f P 231 [.int .i64 k, .agg #[.bool neg, .int .u64 man, .int .i64 exp]] w fun r w' => ∃ res : Int × Bool × Int, r = .tuple #[.int .u64 res.1, .bool res.2.1, .int .i64 res.2.2] ∧ Z5V k neg man exp res ∧ Grow w w' [] := by
 refine Z0o func231 rfl ntmps231 rfl ?_
 have H0 := St.start w
 refine Z03 (Z00 ?_)
 refine Z57 H0 rfl rfl rfl (fun b0_0 w1 H1 => ?_)
 refine Zg (Zg (Zg (Z01 (Z02 ?_))))
 refine Zk [0, 3] ?_
 refine Z03 (Z00 (Zm ?_))
 refine Zc func109 (Z7m k w1) ?_
 rintro _ w2 ⟨m, l, a, sok, rfl, hSh, hG⟩
 have H2 := hG _ _ _ _ H1
 simp only [Zca, Zna] at H2
 refine Zm ?_
 refine Zx (Zx ?_)
 refine Z0X H2 ta158 rfl rfl (fun b1_5 w3 H3 => ?_)
 refine Z0m H3 .head (.zero (.zero (.zero .nil))) rfl Z5y rfl rfl ZC (fun w4 H4 => ?_)
 refine Zg (Z01 (Z02 ?_))
 refine Zk [3, 7, 8] ?_
 refine Z03 (Z0d (Z03 (Z00 (Zm ?_))))
 first | refine Z38 rfl rfl rfl ?_ | refine Z3v rfl rfl rfl ?_
 refine Zg (Z01 (Z02 ?_))
 refine Zk [3, 7, 14] ?_
 (first | refine Z0c rfl ?_ ?_ | refine Z08 rfl ?_ ?_) <;> intro hc0
 ·have hno : kd k = none := by
   rw [hSh.is] at hc0
   cases h : kd k with
   | none => rfl
   | some d => rw [h] at hc0; simp at hc0
  refine Z03 (Z00 (Zg (Zg (Zg (Z01 (Z02 ?_))))))
  refine Zk [4, 5, 6] ?_
  refine Z0i ?_
  refine Z0k ?_
  refine Z07 ?_
  refine Z12 results231 (.tmp rfl (.tmp rfl (.tmp rfl .nil))) rfl ?_
  refine ⟨_, rfl, ?_⟩
  have H6 := St.del .head (St.del (.tail .head) H4)
  exact ⟨_, rfl, Z5V.none hno, H6.grows⟩
 obtain ⟨d, hd⟩ : ∃ d, kd k = some d := by
  rw [hSh.is] at hc0
  cases h : kd k with
  | none => rw [h] at hc0; simp at hc0
  | some d => exact ⟨d, rfl⟩
 obtain ⟨rfl, rfl, rfl⟩ := hSh.at hd
 have hbd := d.bd
 refine Z03 (Z00 (Z09 fo225_1 rfl rfl rfl ?_))
 refine Z05 H4 mem1 rfl rfl underlying24 rfl rfl rfl ?_
 refine Ze ?_
 refine Zg (Z01 (Z02 ?_))
 refine Zk [3, 7, 17] ?_
 (first | refine Z0c rfl ?_ ?_ | refine Z08 rfl ?_ ?_) <;> intro hc1
 ·refine Z03 (Z00 ?_)
  refine Z1b H4 mem0 rfl rfl underlying158 rfl Z5y rfl (.take (.take (.take .nil))) ?_
  refine Z09 fo225_0 rfl rfl rfl ?_
  refine Z05 H4 mem1 rfl rfl underlying4 rfl rfl rfl ?_
  refine Zc func248 (Z6P d neg 0 ZO w4) ?_
  rintro _ w7 ⟨rfl, hG⟩
  have H7 := hG _ _ _ _ H4
  simp only [Zca, Zna] at H7
  refine Zg (Zg (Zg (Z01 (Z02 ?_))))
  refine Zk [4, 5, 6] ?_
  refine Z0i ?_
  refine Z0k ?_
  refine Z07 ?_
  refine Z12 results231 (.tmp rfl (.tmp rfl (.tmp rfl .nil))) rfl ?_
  refine ⟨_, rfl, ?_⟩
  have H9 := St.del .head (St.del (.tail .head) H7)
  refine ⟨(if neg = true then 0 + d.S else 0, true, 0), rfl, ?_, H9.grows⟩
  have hz := RndR.zero (H := d.H) (G := d.I - 1) (D := 2 ^ (-(max (min exp 2000) (-2000))).toNat) d.I_lt.2.2 d.I_lt.1 d.I_lt.2.1 (p2 _)
  have hr := Z5V.is (neg := neg) (m := man) (e := exp) hd (t := (0, true, 0)) (by rw [hc1, Int.zero_mul, Int.zero_mul]; exact hz)
  rw [Z6L rfl] at hr
  exact hr
 have hrnd := join_rnd d (man := man) (exp := exp) ZO rfl
 have ht := hrnd.bd (by have := d.I_lt; omega)
 refine Z0a ?_
 refine Z0F ?_
 refine Z02 ?_
 refine Zk [3, 7] ?_
 refine Z03 (Z00 ?_)
 refine Z1b H4 mem0 rfl rfl underlying158 rfl Z5y rfl (.take (.take (.take .nil))) ?_
 refine Z09 fo225_1 rfl rfl rfl ?_
 refine Z05 H4 mem1 rfl rfl underlying24 rfl rfl rfl ?_
 refine Z09 fo225_2 rfl rfl rfl ?_
 refine Z05 H4 mem1 rfl rfl underlying3 rfl rfl rfl ?_
 refine Zc func260 (packB d man exp false hm he w4) ?_
 rintro _ w10 ⟨rfl, hG⟩
 have H10 := hG _ _ _ _ H4
 simp only [Zca, Zna] at H10
 refine Zm ?_
 refine Zx (Zx (Zx (Zg (Zg (Zg (Z01 (Z02 ?_)))))))
 refine Zk [3, 4, 5, 6, 7] ?_
 refine Z03 (Z03 (Z00 (Zm ?_)))
 refine Zo ?_
 refine Z01 (Z02 ?_)
 refine Zk [3, 4, 5, 6, 7, 36] ?_
 (first | refine Z0c rfl ?_ ?_ | refine Z08 rfl ?_ ?_) <;> intro hc2
 ·refine Z03 (Z00 (Zm (Zg (Zg (Zg (Z01 (Z02 ?_)))))))
  refine Zk [4, 5, 6] ?_
  refine Z0i ?_
  refine Z07 ?_
  refine Z12 results231 (.tmp rfl (.tmp rfl (.tmp rfl .nil))) rfl ?_
  refine ⟨_, rfl, ?_⟩
  have H12 := St.del .head (St.del (.tail .head) H10)
  refine ⟨(0, false, (Z5h d man exp false).2.2), rfl, ?_, H12.grows⟩
  have hr := Z5V.is (neg := neg) hd hrnd
  rw [sgR_no hc2] at hr
  exact hr
 refine Z0a (Z02 ?_)
 refine Zk [3, 4, 5, 7] ?_
 refine Z03 (Z00 ?_)
 refine Z1b H10 mem0 rfl rfl underlying158 rfl Z5y rfl (.take (.take (.take .nil))) ?_
 refine Z09 fo225_0 rfl rfl rfl ?_
 refine Z05 H10 mem1 rfl rfl underlying4 rfl rfl rfl ?_
 refine Zm ?_
 refine Zc func248 (Z6P d neg (Z5h d man exp false).1 ZO w10) ?_
 rintro _ w13 ⟨rfl, hG⟩
 have H13 := hG _ _ _ _ H10
 simp only [Zca, Zna] at H13
 refine Zm (Zg (Zg (Zg (Z01 (Z02 ?_)))))
 refine Zk [4, 5, 6] ?_
 refine Z0i ?_
 refine Z12 results231 (.tmp rfl (.tmp rfl (.tmp rfl .nil))) rfl ?_
 refine ⟨_, rfl, ?_⟩
 have H15 := St.del .head (St.del (.tail .head) H13)
 refine ⟨(if neg = true then (Z5h d man exp false).1 + d.S else (Z5h d man exp false).1, (Z5h d man exp false).2.1, 0), rfl, ?_, H15.grows⟩
 have hr := Z5V.is (neg := neg) hd hrnd
 rw [Z6L ZO] at hr
 exact hr
end Go.Proofs.YtgjgahmhoflgcaaGreatDoor.W
