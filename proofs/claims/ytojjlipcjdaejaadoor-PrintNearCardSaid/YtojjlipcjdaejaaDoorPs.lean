/- walk of the law PrintSigns -/
import Derived.Test.YtojjlipcjdaejaaDoorPl
import Derived.Test.YtojjlipcjdaejaaDoorPm
import Derived.Test.YtojjlipcjdaejaaDoorNa
set_option linter.unusedVariables false
set_option linter.unusedSimpArgs false
set_option maxRecDepth 10000
namespace Go.Proofs.YtojjlipcjdaejaaDoor.W
open Go.Vc Go.RowKit
theorem and_i1 {n : Int} (h : -9223372036854775808 ≤ n ∧ n ≤ 9223372036854775807) : bitw .and .i64 n 1 = n % 2 := by
 have e : (BitVec.ofInt IntKind.i64.bits n &&& BitVec.ofInt IntKind.i64.bits 1).toNat = (n % 18446744073709551616).toNat % 2 := by
  show (BitVec.ofInt 64 n &&& BitVec.ofInt 64 1).toNat = _
  rw [BitVec.toNat_and, BitVec.toNat_ofInt, BitVec.toNat_ofInt]
  exact Nat.and_two_pow_sub_one_eq_mod (n % 18446744073709551616).toNat 1
 show IntKind.i64.wrap _ = _
 rw [e, w_i64 (by omega)]
 omega
theorem kd_fit (n : Int) : ∃ d, kd (9 + n % 2) = some d := by
 rcases (show n % 2 = 0 ∨ n % 2 = 1 by omega) with h | h <;> rw [h]
 ·exact ⟨.f32, rfl⟩
 ·exact ⟨.f64, rfl⟩
theorem fit_bd {k a : Int} {d : Kd} (hk : kd k = some d) (ha : 0 ≤ a ∧ a ≤ 18446744073709551615) : 0 ≤ (if k = 9 then a % 4294967296 else a) ∧ (if k = 9 then a % 4294967296 else a) < 2 * d.S := by
 rcases kd_some hk with ⟨rfl, rfl⟩ | ⟨rfl, rfl⟩
 ·show 0 ≤ a % 4294967296 ∧ a % 4294967296 < 2 * 2147483648; omega
 ·show 0 ≤ a ∧ a < 2 * 9223372036854775808; omega
theorem tmod_bd {a w : Int} (h : 0 < w) : -w < a.tmod w ∧ a.tmod w < w := by
 by_cases h0 : 0 ≤ a
 ·rw [Int.tmod_eq_emod_of_nonneg h0]
  have := Int.emod_nonneg a (show w ≠ 0 by omega)
  have := Int.emod_lt_of_pos a h
  omega
 ·have e := Int.neg_tmod (a := a) (b := w)
  rw [Int.tmod_eq_emod_of_nonneg (show 0 ≤ -a by omega)] at e
  have := Int.emod_nonneg (-a) (show w ≠ 0 by omega)
  have := Int.emod_lt_of_pos (-a) h
  omega
theorem withinK (n lo hi : Int) (hn : -9223372036854775808 ≤ n ∧ n ≤ 9223372036854775807) (hlo : lo ≤ hi ∧ hi ≤ 1000000 ∧ -1000000 ≤ lo) (w : World) :
  CallsV P 6 [.int .i64 n, .int .i64 lo, .int .i64 hi] w fun r w' => (∃ q, r = .int .i64 q ∧ lo ≤ q ∧ q ≤ hi) ∧ w = w' := by
 refine enterW Tryd.func6 rfl Tryd.ntmps6 rfl ?_
 have htm := tmod_bd (a := n) (w := hi - lo + 1) (by omega)
 refine c_seq (c_region (l_assign rfl rfl rfl (l_nil (e_then ?_))))
 refine c_keep [0, 1, 2] (.cons rfl (.cons rfl (.cons rfl .nil))) ?_
 refine c_seq (c_region (l_move rfl rfl rfl (l_move rfl rfl rfl ?_)))
 refine l_sub rfl rfl rfl rfl (w_i64 (by omega)) ?_
 refine l_add rfl rfl rfl rfl (w_i64 (by omega)) ?_
 refine l_assign rfl rfl rfl (l_nil (e_then ?_))
 refine c_keep [0, 1, 7] (.cons rfl (.cons rfl (.cons rfl .nil))) ?_
 refine c_seq (c_region (l_move rfl rfl rfl (l_move rfl rfl rfl ?_)))
 refine l_rem rfl rfl rfl rfl (by omega) (rfl) ?_
 refine l_assign rfl rfl rfl (l_nil (e_then ?_))
 refine c_keep [0, 1, 7] (.cons rfl (.cons rfl (.cons rfl .nil))) ?_
 refine c_seq (c_seq (c_region (l_move rfl rfl rfl ?_)))
 refine l_lss rfl rfl rfl rfl ?_
 refine l_nil (e_then ?_)
 refine c_keep [0, 1, 7, 16] (.cons rfl (.cons rfl (.cons rfl (.cons rfl .nil)))) ?_
 first | refine c_cond rfl (fun hc0 => ?_) (fun hc0 => ?_) | refine c_condb rfl (fun hc0 => ?_) (fun hc0 => ?_)
 ·skip
  refine c_region (l_move rfl rfl rfl (l_move rfl rfl rfl ?_))
  refine l_add rfl rfl rfl rfl (w_i64 (by omega)) ?_
  refine l_assign rfl rfl rfl (l_nil (e_then ?_))
  refine c_keep [0, 1] (.cons rfl (.cons rfl .nil)) ?_
  refine c_seq (c_region (l_move rfl rfl rfl (l_move rfl rfl rfl ?_)))
  refine l_add rfl rfl rfl rfl (w_i64 (by omega)) ?_
  refine l_assign rfl rfl rfl (l_nil (e_then ?_))
  refine c_keep [6] (.cons rfl .nil) ?_
  refine c_ret ?_
  refine e_done1 Tryd.results6 rfl ?_
  refine ⟨_, rfl, ?_⟩
  exact ⟨⟨_, rfl, by omega, by omega⟩, rfl⟩
 ·skip
  refine c_skip (e_then ?_)
  refine c_keep [0, 1] (.cons rfl (.cons rfl .nil)) ?_
  refine c_seq (c_region (l_move rfl rfl rfl (l_move rfl rfl rfl ?_)))
  refine l_add rfl rfl rfl rfl (w_i64 (by omega)) ?_
  refine l_assign rfl rfl rfl (l_nil (e_then ?_))
  refine c_keep [6] (.cons rfl .nil) ?_
  refine c_ret ?_
  refine e_done1 Tryd.results6 rfl ?_
  refine ⟨_, rfl, ?_⟩
  exact ⟨⟨_, rfl, by omega, by omega⟩, rfl⟩
theorem fitL11 (k b : Int) (hb : 0 ≤ b ∧ b ≤ 18446744073709551615) (w : World) :
  CallsV P 5 [.int .i64 k, .int .u64 b] w fun r w' => r = .int .u64 (if k = 9 then b % 4294967296 else b) ∧ w = w' := by
 refine enterW Tryd.func5 rfl Tryd.ntmps5 rfl ?_
 refine c_seq (c_region (l_assign rfl rfl rfl (l_nil (e_then ?_))))
 refine c_keep [0, 1] (.cons rfl (.cons rfl .nil)) ?_
 refine c_seq (c_seq (c_region (l_move rfl rfl rfl ?_)))
 refine l_eql rfl rfl rfl rfl ?_
 refine l_nil (e_then ?_)
 refine c_keep [1, 6] (.cons rfl (.cons rfl .nil)) ?_
 first | refine c_cond rfl (fun hc0 => ?_) (fun hc0 => ?_) | refine c_condb rfl (fun hc0 => ?_) (fun hc0 => ?_)
 ·skip
  refine c_seq (c_region (l_move rfl rfl rfl ?_))
  refine l_rem rfl rfl rfl rfl (by omega) (r_pos (by omega)) ?_
  refine l_assign rfl rfl rfl (l_nil (e_then ?_))
  refine c_keep [4] (.cons rfl .nil) ?_
  refine c_ret ?_
  refine e_then_ret ?_
  refine e_done1 Tryd.results5 rfl ?_
  refine ⟨_, rfl, ?_⟩
  exact ⟨by rw [if_pos hc0], rfl⟩
 ·skip
  refine c_skip (e_then ?_)
  refine c_keep [1] (.cons rfl .nil) ?_
  refine c_seq (c_region (l_move rfl rfl rfl (l_assign rfl rfl rfl (l_nil (e_then ?_)))))
  refine c_keep [4] (.cons rfl .nil) ?_
  refine c_ret ?_
  refine e_done1 Tryd.results5 rfl ?_
  refine ⟨_, rfl, ?_⟩
  exact ⟨by rw [if_neg hc0], rfl⟩
theorem wdT_sign {d : Kd} {c : Int} (hc : 0 ≤ c ∧ c < d.S) (x : List UInt8) : wdT d (c + d.S) x = (if d.I < c then [] else [45]) ++ wdT d c x := by
 have e1 : (c + d.S) % d.S = c := by rw [Int.add_emod_right]; exact Int.emod_eq_of_lt hc.1 hc.2
 have e2 : c % d.S = c := Int.emod_eq_of_lt hc.1 hc.2
 unfold wdT sgT
 rw [e1, e2]
 split
 ·rfl
 ·have hbd := d.bd
  rw [if_pos (show d.S ≤ c + d.S by omega), if_neg (show ¬ d.S ≤ c by omega)]
  rfl
theorem clsF_fin {k c : Int} {d : Kd} (hk : kd k = some d) (hc : c < 2 * d.S) : clsF k c = (cls d c, 0) := ofk_ok hk (chk_some hk hc)
theorem wdT_ne {d : Kd} {c : Int} {x : List UInt8} (h : x ≠ []) : wdT d c x ≠ [] := by
 unfold wdT
 split
 ·simp
 ·split
  ·simp
  ·simp [h]
theorem dtx_ne {z : Int} (hz : 0 ≤ z) : dtx z ≠ [] := List.length_pos_iff.1 (dtx_pos hz)
theorem shT_ne {m x : Int} (hm : 0 ≤ m) : shT m x ≠ [] := by
 have h1 := dtx_pos hm
 have h2 : ∀ n : Int, 1 ≤ n → ptT (dtx m) n ≠ [] := fun n hn => by
  have : (List.take n.toNat (dtx m)).length ≠ 0 := by rw [List.length_take]; omega
  unfold ptT
  intro h
  have := (List.append_eq_nil_iff.1 h).1
  simp_all
 unfold shT
 split
 ·intro h
  exact h2 1 (by omega) (List.append_eq_nil_iff.1 h).1
 ·split
  ·simp
  ·split
   ·exact h2 _ (by omega)
   ·intro h
    exact dtx_ne hm (List.append_eq_nil_iff.1 h).1
theorem ShT.sign {k c e e' : Int} {t t' : List UInt8} {d : Kd} (hk : kd k = some d) (hc : 0 ≤ c ∧ c < d.S) (h : ShT k c e t) (g : ShT k (c + d.S) e' t') : e = 0 ∧ e' = 0 ∧ 0 < t.length ∧ t' = (if d.I < c then [] else [45]) ++ t := by
 have hbd := d.bd
 have e1 : (c + d.S) % d.S = c := by rw [Int.add_emod_right]; exact Int.emod_eq_of_lt hc.1 hc.2
 have e2 : c % d.S = c := Int.emod_eq_of_lt hc.1 hc.2
 have he : e = 0 := by rw [h.1, clsF_fin hk (by omega)]
 have he' : e' = 0 := by rw [g.1, clsF_fin hk (by omega)]
 obtain ⟨d1, bd, hd, _, h1, h2, h3⟩ := h.2.2 he
 obtain ⟨d2, bd', hd', _, g1, g2, g3⟩ := g.2.2 he'
 rw [hk] at hd hd'
 cases hd
 cases hd'
 rw [e2] at h2 h3
 rw [e1] at g2 g3
 refine ⟨he, he', ?_, ?_⟩
 ·rw [h1]
  rcases Int.lt_or_le c d.I with h4 | h4
  ·refine List.length_pos_iff.2 (wdT_ne ?_)
   rcases Int.lt_or_eq_of_le hc.1 with h5 | h5
   ·obtain ⟨m, x, hD, r1⟩ := h3 h5 h4
    rw [r1]
    exact shT_ne (Int.le_of_lt (hD.bd ⟨h5, h4⟩).1)
   ·rw [h2 h5.symm]
    simp
  ·rw [wdT_over (y := [48]) (by rw [e2]; exact h4)]
   exact List.length_pos_iff.2 (wdT_ne (by simp))
 ·rw [g1, wdT_sign hc, h1]
  congr 1
  rcases Int.lt_or_le c d.I with h4 | h4
  ·rcases Int.lt_or_eq_of_le hc.1 with h5 | h5
   ·obtain ⟨m, x, hD, r1⟩ := h3 h5 h4
    obtain ⟨m', x', hD', r1'⟩ := g3 h5 h4
    obtain ⟨rfl, rfl⟩ := hD.unique (fY_pos _ _) hD'
    rw [r1, r1']
   ·rw [h2 h5.symm, g2 h5.symm]
  ·exact wdT_over (by rw [e2]; exact h4)
theorem ask0 {k c q : Int} {d : Kd} (hk : kd k = some d) (hc : c < 2 * d.S) (hq : 0 ≤ q ∧ q ≤ 40) : askE k c q = 0 := by
 unfold askE
 rw [clsF_fin hk hc, if_pos rfl, if_neg (by omega)]
theorem FixT.sign {k c q e e' : Int} {t t' : List UInt8} {d : Kd} (hk : kd k = some d) (hc : 0 ≤ c ∧ c < d.S) (hq : 0 ≤ q ∧ q ≤ 40) (h : FixT k c q e t) (g : FixT k (c + d.S) q e' t') : e = 0 ∧ e' = 0 ∧ t' = (if d.I < c then [] else [45]) ++ t := by
 have hbd := d.bd
 have e1 : (c + d.S) % d.S = c := by rw [Int.add_emod_right]; exact Int.emod_eq_of_lt hc.1 hc.2
 have e2 : c % d.S = c := Int.emod_eq_of_lt hc.1 hc.2
 have he : e = 0 := by rw [h.1, ask0 hk (by omega) hq]
 have he' : e' = 0 := by rw [g.1, ask0 hk (by omega) hq]
 obtain ⟨d1, hd, _, h1⟩ := h.2.2 he
 obtain ⟨d2, hd', _, g1⟩ := g.2.2 he'
 rw [hk] at hd hd'
 cases hd
 cases hd'
 rw [e2] at h1
 rw [e1] at g1
 refine ⟨he, he', ?_⟩
 rw [g1, wdT_sign hc, h1]
theorem ExT.sign {k c q e e' : Int} {t t' : List UInt8} {d : Kd} (hk : kd k = some d) (hc : 0 ≤ c ∧ c < d.S) (hq : 0 ≤ q ∧ q ≤ 40) (h : ExT k c q e t) (g : ExT k (c + d.S) q e' t') : e = 0 ∧ e' = 0 ∧ t' = (if d.I < c then [] else [45]) ++ t := by
 have hbd := d.bd
 have e1 : (c + d.S) % d.S = c := by rw [Int.add_emod_right]; exact Int.emod_eq_of_lt hc.1 hc.2
 have e2 : c % d.S = c := Int.emod_eq_of_lt hc.1 hc.2
 have he : e = 0 := by rw [h.1, ask0 hk (by omega) hq]
 have he' : e' = 0 := by rw [g.1, ask0 hk (by omega) hq]
 obtain ⟨d1, bd, hd, _, h1, h2, h3⟩ := h.2.2 he
 obtain ⟨d2, bd', hd', _, g1, g2, g3⟩ := g.2.2 he'
 rw [hk] at hd hd'
 cases hd
 cases hd'
 rw [e2] at h2 h3
 rw [e1] at g2 g3
 refine ⟨he, he', ?_⟩
 rw [g1, wdT_sign hc, h1]
 congr 1
 rcases Int.lt_or_le c d.I with h4 | h4
 ·rcases Int.lt_or_eq_of_le hc.1 with h5 | h5
  ·obtain ⟨x, hx, r1⟩ := h3 h5 h4
   obtain ⟨x', hx', r1'⟩ := g3 h5 h4
   obtain rfl := hx.unique (fY_pos _ _) hx'
   rw [r1, r1']
  ·rw [h2 h5.symm, g2 h5.symm]
 ·exact wdT_over (by rw [e2]; exact h4)
theorem wdT_len {d : Kd} {c : Int} {x : List UInt8} {n : Nat} (h : x.length ≤ n) : (wdT d c x).length ≤ n + 4 := by
 have hsg : (sgT d c).length ≤ 1 := by unfold sgT; split <;> simp
 unfold wdT
 split
 ·simp
 ·split
  ·simp; omega
  ·simp; omega
theorem ptT_len (ds : List UInt8) (n : Int) : (ptT ds n).length ≤ ds.length + 1 := by
 unfold ptT
 split <;> simp <;> omega
theorem exT_len {n : Int} (h : -1000 ≤ n ∧ n ≤ 1000) : (exT n).length ≤ 6 := by
 have := itoaT_len h
 unfold exT
 simp
 omega
theorem zsT_len (n : Int) : (zsT n).length = n.toNat := by unfold zsT; rw [List.length_replicate]
theorem fxT_len {R q : Int} (h : (dtx R).length ≤ 967) (hq : 0 ≤ q ∧ q ≤ 40) : (fxT R q).length ≤ 1100 := by
 have h1 : (padT (dtx R) q).length ≤ 1050 := by
  unfold padT
  have := zsT_len (q + 1 - (dtx R).length)
  split
  ·simp; omega
  ·omega
 unfold fxT
 have := ptT_len (padT (dtx R) q) ((padT (dtx R) q).length - q)
 omega
theorem ShT.len {k b e : Int} {t : List UInt8} (h : ShT k b e t) (hb : 0 ≤ b) : t.length ≤ 2000 := by
 by_cases h0 : e = 0
 ·obtain ⟨d, body, hd, _, h1, h2, h3⟩ := h.2.2 h0
  have hbd := d.bd
  have hm := Int.emod_nonneg b (show d.S ≠ 0 by omega)
  rw [h1]
  rcases Int.lt_or_le (b % d.S) d.I with h4 | h4
  ·refine Nat.le_trans (wdT_len (n := 1500) ?_) (by omega)
   rcases Int.lt_or_eq_of_le hm with h5 | h5
   ·obtain ⟨m, x, hD, r1⟩ := h3 h5 h4
    have hbd2 := hD.bd ⟨h5, h4⟩
    have hml := dtx_le (x := m) (by omega)
    rw [r1]
    unfold shT
    split
    ·have := exT_len (n := ((dtx m).length : Int) + x - 1) (by omega)
     have := ptT_len (dtx m) 1
     rw [List.length_append]
     omega
    ·split
     ·have := zsT_len (-(((dtx m).length : Int) + x))
      simp only [List.length_append, List.length_cons, List.length_nil]
      omega
     ·split
      ·have := ptT_len (dtx m) (((dtx m).length : Int) + x)
       omega
      ·have := zsT_len x
       rw [List.length_append]
       omega
   ·rw [h2 h5.symm]
    simp
  ·rw [wdT_over (y := []) h4]
   exact Nat.le_trans (wdT_len (n := 0) (by simp)) (by omega)
 ·rw [h.2.1 h0]
  simp
theorem FixT.len {k b q e : Int} {t : List UInt8} (h : FixT k b q e t) (hb : 0 ≤ b) : t.length ≤ 2000 := by
 by_cases h0 : e = 0
 ·obtain ⟨_, hq0, hq1⟩ := askE_0 (h.1.symm.trans h0)
  obtain ⟨d, hd, _, h1⟩ := h.2.2 h0
  have hbd := d.bd
  have hm := Int.emod_nonneg b (show d.S ≠ 0 by omega)
  rw [h1]
  rcases Int.lt_or_le (b % d.S) d.I with h4 | h4
  ·exact Nat.le_trans (wdT_len (n := 1100) (fxT_len (rn_len ⟨hm, h4⟩ (by omega)).2 ⟨hq0, hq1⟩)) (by omega)
  ·rw [wdT_over (y := []) h4]
   exact Nat.le_trans (wdT_len (n := 0) (by simp)) (by omega)
 ·rw [h.2.1 h0]
  simp
theorem ExT.len {k b q e : Int} {t : List UInt8} (h : ExT k b q e t) (hb : 0 ≤ b) : t.length ≤ 2000 := by
 by_cases h0 : e = 0
 ·obtain ⟨_, hq0, hq1⟩ := askE_0 (h.1.symm.trans h0)
  obtain ⟨d, body, hd, _, h1, h2, h3⟩ := h.2.2 h0
  have hbd := d.bd
  have hm := Int.emod_nonneg b (show d.S ≠ 0 by omega)
  rw [h1]
  rcases Int.lt_or_le (b % d.S) d.I with h4 | h4
  ·refine Nat.le_trans (wdT_len (n := 1500) ?_) (by omega)
   rcases Int.lt_or_eq_of_le hm with h5 | h5
   ·obtain ⟨x, hx, r1⟩ := h3 h5 h4
    have hfl := flt_of ⟨h5, h4⟩
    obtain ⟨x2, ht, het, hlo4, hhi3, _⟩ := flt_top hfl
    obtain rfl := hx.unique hfl.hy ht
    have hlo3 := flt_low hfl het
    have hel := ex_len hfl.hy hq0 hx
    rw [r1]
    unfold exB
    split
    ·have := exT_len (n := x + 1) (by omega)
     have := ptT_len ((dtx (rnE (fN (fX d (b % d.S)) (-(q - x))) (fD (fY d (b % d.S)) (-(q - x))))).take (q.toNat + 1)) 1
     rw [List.length_take] at this
     rw [List.length_append]
     omega
    ·have := exT_len (n := x) (by omega)
     have := ptT_len (dtx (rnE (fN (fX d (b % d.S)) (-(q - x))) (fD (fY d (b % d.S)) (-(q - x))))) 1
     rw [List.length_append]
     omega
   ·rw [h2 h5.symm]
    have := exT_len (n := 0) (by omega)
    have := ptT_len (zsT (q + 1)) 1
    have := zsT_len (q + 1)
    rw [List.length_append]
    omega
  ·rw [wdT_over (y := []) h4]
   exact Nat.le_trans (wdT_len (n := 0) (by simp)) (by omega)
 ·rw [h.2.1 h0]
  simp
theorem printSignsL (n b q : Int) (hn : -9223372036854775808 ≤ n ∧ n ≤ 9223372036854775807) (hb : 0 ≤ b ∧ b ≤ 18446744073709551615) (hq : -9223372036854775808 ≤ q ∧ q ≤ 9223372036854775807) (w : World) (hT : TabP w) :
  CallsV P 4 [.int .i64 n, .int .u64 b, .int .i64 q] w fun r w' => r = .bool true ∧ Grow w w' [] := by
 refine enterW Tryd.func4 rfl Tryd.ntmps4 rfl ?_
 have hw0 := St.start w
 obtain ⟨d, hk⟩ := kd_fit n
 have hbd := d.bd
 have hfa := fit_bd hk hb
 refine c_seq (c_region (l_assign rfl rfl rfl (l_nil (e_then ?_))))
 refine c_keep [0, 1, 2] (.cons rfl (.cons rfl (.cons rfl .nil))) ?_
 refine c_seq (c_region (l_move rfl rfl rfl ?_))
 refine l_bits rfl rfl rfl rfl rfl (and_i1 hn) ?_
 refine l_add rfl rfl rfl rfl (w_i64 (by omega)) ?_
 refine l_assign rfl rfl rfl (l_nil (e_then ?_))
 refine c_keep [1, 2, 7] (.cons rfl (.cons rfl (.cons rfl .nil))) ?_
 refine c_seq (c_region (l_move rfl rfl rfl (l_move rfl rfl rfl ?_)))
 refine l_callp rfl rfl Tryd.func5 rfl rfl (.cons rfl (.cons rfl .nil)) (fitL11 (9 + n % 2) b hb w) ?_
 refine l_assign rfl rfl rfl (l_nil (e_then ?_))
 refine c_keep [1, 2, 7] (.cons rfl (.cons rfl (.cons rfl .nil))) ?_
 refine c_seq (c_region ?_)
 obtain ⟨a, hae⟩ : ∃ x, x = (if 9 + n % 2 = 9 then b % 4294967296 else b) := ⟨_, rfl⟩
 refine l_turn (s := 1) (v' := .int .u64 a) rfl (by rw [hae]) ?_
 rw [← hae] at hfa
 have ha2 := hfa
 have hma := mod_S d ha2
 refine l_move rfl rfl rfl ?_
 refine l_call rfl rfl Tryd.func6 rfl rfl (.cons rfl (.cons rfl (.cons rfl .nil))) (withinK q 0 40 hq (by omega) w) ?_
 rintro _ _ ⟨⟨q2, rfl, hq0, hq1⟩, rfl⟩
 refine l_assign rfl rfl rfl (l_nil (e_then ?_))
 refine c_keep [1, 2, 7] (.cons rfl (.cons rfl (.cons rfl .nil))) ?_
 refine c_seq (c_region (l_move rfl rfl rfl ?_))
 refine l_callp rfl rfl Tryd.func19 rfl rfl (.cons rfl (.cons rfl .nil)) (inf3 (9 + n % 2) d hk true w) ?_
 refine l_move rfl rfl rfl ?_
 refine l_callp rfl rfl Tryd.func19 rfl rfl (.cons rfl (.cons rfl .nil)) (inf3 (9 + n % 2) d hk false w) ?_
 refine l_sub rfl rfl rfl rfl (show IntKind.u64.wrap (d.I + d.S - d.I) = d.S by rw [w_u64 (by omega)]; omega) ?_
 refine l_assign rfl rfl rfl (l_nil (e_then ?_))
 refine c_keep [1, 2, 7, 8] (.cons rfl (.cons rfl (.cons rfl (.cons rfl .nil)))) ?_
 refine c_seq (c_region (l_move rfl rfl rfl (l_move rfl rfl rfl ?_)))
 refine l_rem rfl rfl rfl rfl (by omega) (quo_tmod ha2.1) ?_
 refine l_assign rfl rfl rfl (l_nil (e_then ?_))
 refine c_keep [1, 2, 7, 8] (.cons rfl (.cons rfl (.cons rfl (.cons rfl .nil)))) ?_
 refine c_seq (c_region ?_)
 have hm0 := Int.emod_nonneg a (show d.S ≠ 0 by omega)
 have hm1 := Int.emod_lt_of_pos a (show 0 < d.S by omega)
 have hcm : (a % d.S) % d.S = a % d.S := Int.emod_eq_of_lt hm0 hm1
 have hcl := clsF_fin (c := a % d.S) hk (by omega)
 have hnan : cls d (a % d.S) = 5 ↔ d.I < a % d.S := by unfold cls; rw [hcm]; (repeat' split) <;> omega
 refine l_assign rfl rfl rfl (l_nil (e_then ?_))
 refine c_cutk (ι := List UInt8) (fun (ah : List UInt8) (w' : World) => St w w.heap.size None' ([]) w' ∧ ah = (if d.I < a % d.S then [] else [45])) (fun (ah : List UInt8) => [(9, str ah)]) [1, 2, 7, 8] (.cons rfl (.cons rfl (.cons rfl (.cons rfl .nil)))) ?_ ?_
 ·skip
  refine c_seq (c_region (l_move rfl rfl rfl (l_move rfl rfl rfl ?_)))
  refine l_call rfl rfl Tryd.func20 rfl rfl (.cons rfl (.cons rfl .nil)) (classB (9 + n % 2) (a % d.S) (by omega) w) ?_
  rintro _ w1 ⟨rfl, hG⟩
  have hw1 := hG _ _ _ _ hw0
  try clear hG hw0
  simp only [List.cons_append, List.nil_append] at hw1
  rw [hcl]
  refine l_move rfl rfl rfl (l_extract rfl rfl rfl rfl (l_extract rfl rfl rfl rfl (l_assign rfl rfl rfl (l_assign rfl rfl rfl (l_nil ?_)))))
  refine e_then ?_
  refine c_keep [1, 2, 7, 8, 9, 10] (.cons rfl (.cons rfl (.cons rfl (.cons rfl (.cons rfl (.cons rfl .nil)))))) ?_
  refine c_seq (c_region (l_move rfl rfl rfl ?_))
  refine l_eql rfl rfl rfl rfl ?_
  refine l_nil (e_then ?_)
  refine c_keep [1, 2, 7, 8, 9, 48] (.cons rfl (.cons rfl (.cons rfl (.cons rfl (.cons rfl (.cons rfl .nil)))))) ?_
  first | refine c_cond rfl (fun hc0 => ?_) (fun hc0 => ?_) | refine c_condb rfl (fun hc0 => ?_) (fun hc0 => ?_)
  ·skip
   refine c_region (l_assign rfl rfl rfl (l_nil ?_))
   refine e_meetk ([]) ?_ (.cons rfl (.cons rfl (.cons rfl (.cons rfl .nil)))) ?_
   ·exact ⟨hw1, by rw [if_pos (by omega)]⟩
   ·exact (.cons rfl (by first | rfl | (refine congrArg (Value.int _) ?_; omega)) .nil)
  ·skip
   refine c_skip ?_
   refine e_meetk ([45]) ?_ (.cons rfl (.cons rfl (.cons rfl (.cons rfl .nil)))) ?_
   ·exact ⟨hw1, by rw [if_neg (by omega)]⟩
   ·exact (.cons rfl (by first | rfl | (refine congrArg (Value.int _) ?_; omega)) .nil)
 rintro ah w2 ⟨hw2, hah⟩
 show RunC P _ _ _ (_ :: _) _
 refine c_seq (c_region (l_move rfl rfl rfl (l_move rfl rfl rfl ?_)))
 refine l_call rfl rfl Tryd.func21 rfl rfl (.cons rfl (.cons rfl .nil)) (ShortestP (9 + n % 2) (a % d.S) (by omega) w2 (tab_keep hT (fun k hk hf => hw2.ext.block k hk hf))) ?_
 rintro _ w3 ⟨v1, e1, t1, rfl, hA1, hG⟩
 have hw3 := hG _ _ _ _ hw2
 try clear hG hw2
 simp only [List.cons_append, List.nil_append] at hw3
 refine l_move rfl rfl rfl (l_extract rfl rfl rfl rfl (l_extract rfl rfl rfl rfl (l_assign rfl rfl rfl (l_assign rfl rfl rfl (l_nil ?_)))))
 refine e_then ?_
 refine c_keep [1, 2, 7, 8, 9, 12, 13] (.cons rfl (.cons rfl (.cons rfl (.cons rfl (.cons rfl (.cons rfl (.cons rfl .nil))))))) ?_
 refine c_seq (c_region (l_move rfl rfl rfl (l_move rfl rfl rfl (l_move rfl rfl rfl ?_))))
 refine l_add rfl rfl rfl rfl (w_u64 (by omega)) ?_
 refine l_call rfl rfl Tryd.func21 rfl rfl (.cons rfl (.cons rfl .nil)) (ShortestP (9 + n % 2) (a % d.S + d.S) (by omega) w3 (tab_keep hT (fun k hk hf => hw3.ext.block k hk hf))) ?_
 rintro _ w4 ⟨v2, e2, t2, rfl, hA2, hG⟩
 have hw4 := hG _ _ _ _ hw3
 try clear hG hw3
 simp only [List.cons_append, List.nil_append] at hw4
 refine l_move rfl rfl rfl (l_extract rfl rfl rfl rfl (l_extract rfl rfl rfl rfl (l_assign rfl rfl rfl (l_assign rfl rfl rfl (l_nil ?_)))))
 refine e_then ?_
 refine c_keep [1, 2, 7, 8, 9, 12, 13, 14, 15] (.cons rfl (.cons rfl (.cons rfl (.cons rfl (.cons rfl (.cons rfl (.cons rfl (.cons rfl (.cons rfl .nil))))))))) ?_
 refine c_seq (c_region (l_move rfl rfl rfl (l_move rfl rfl rfl (l_move rfl rfl rfl ?_))))
 refine l_call rfl rfl Tryd.func7 rfl rfl (.cons rfl (.cons rfl (.cons rfl .nil))) (FixedP (9 + n % 2) (a % d.S) (by omega) q2 (by omega) w4) ?_
 rintro _ w5 ⟨v3, e3, t3, rfl, hA3, hG⟩
 have hw5 := hG _ _ _ _ hw4
 try clear hG hw4
 simp only [List.cons_append, List.nil_append] at hw5
 refine l_move rfl rfl rfl (l_extract rfl rfl rfl rfl (l_extract rfl rfl rfl rfl (l_assign rfl rfl rfl (l_assign rfl rfl rfl (l_nil ?_)))))
 refine e_then ?_
 refine c_keep [1, 2, 7, 8, 9, 12, 13, 14, 15, 16, 17] (.cons rfl (.cons rfl (.cons rfl (.cons rfl (.cons rfl (.cons rfl (.cons rfl (.cons rfl (.cons rfl (.cons rfl (.cons rfl .nil))))))))))) ?_
 refine c_seq (c_region (l_move rfl rfl rfl (l_move rfl rfl rfl (l_move rfl rfl rfl ?_))))
 refine l_add rfl rfl rfl rfl (w_u64 (by omega)) ?_
 refine l_move rfl rfl rfl ?_
 refine l_call rfl rfl Tryd.func7 rfl rfl (.cons rfl (.cons rfl (.cons rfl .nil))) (FixedP (9 + n % 2) (a % d.S + d.S) (by omega) q2 (by omega) w5) ?_
 rintro _ w6 ⟨v4, e4, t4, rfl, hA4, hG⟩
 have hw6 := hG _ _ _ _ hw5
 try clear hG hw5
 simp only [List.cons_append, List.nil_append] at hw6
 refine l_move rfl rfl rfl (l_extract rfl rfl rfl rfl (l_extract rfl rfl rfl rfl (l_assign rfl rfl rfl (l_assign rfl rfl rfl (l_nil ?_)))))
 refine e_then ?_
 refine c_keep [1, 2, 7, 8, 9, 12, 13, 14, 15, 16, 17, 18, 19] (.cons rfl (.cons rfl (.cons rfl (.cons rfl (.cons rfl (.cons rfl (.cons rfl (.cons rfl (.cons rfl (.cons rfl (.cons rfl (.cons rfl (.cons rfl .nil))))))))))))) ?_
 refine c_seq (c_region (l_move rfl rfl rfl (l_move rfl rfl rfl (l_move rfl rfl rfl ?_))))
 refine l_call rfl rfl Tryd.func22 rfl rfl (.cons rfl (.cons rfl (.cons rfl .nil))) (ExponentP (9 + n % 2) (a % d.S) (by omega) q2 (by omega) w6 (tab_keep hT (fun k hk hf => hw6.ext.block k hk hf))) ?_
 rintro _ w7 ⟨v5, e5, t5, rfl, hA5, hG⟩
 have hw7 := hG _ _ _ _ hw6
 try clear hG hw6
 simp only [List.cons_append, List.nil_append] at hw7
 refine l_move rfl rfl rfl (l_extract rfl rfl rfl rfl (l_extract rfl rfl rfl rfl (l_assign rfl rfl rfl (l_assign rfl rfl rfl (l_nil ?_)))))
 refine e_then ?_
 refine c_keep [1, 2, 7, 8, 9, 12, 13, 14, 15, 16, 17, 18, 19, 20, 21] (.cons rfl (.cons rfl (.cons rfl (.cons rfl (.cons rfl (.cons rfl (.cons rfl (.cons rfl (.cons rfl (.cons rfl (.cons rfl (.cons rfl (.cons rfl (.cons rfl (.cons rfl .nil))))))))))))))) ?_
 refine c_seq (c_region (l_move rfl rfl rfl (l_move rfl rfl rfl (l_move rfl rfl rfl ?_))))
 refine l_add rfl rfl rfl rfl (w_u64 (by omega)) ?_
 refine l_move rfl rfl rfl ?_
 refine l_call rfl rfl Tryd.func22 rfl rfl (.cons rfl (.cons rfl (.cons rfl .nil))) (ExponentP (9 + n % 2) (a % d.S + d.S) (by omega) q2 (by omega) w7 (tab_keep hT (fun k hk hf => hw7.ext.block k hk hf))) ?_
 rintro _ w8 ⟨v6, e6, t6, rfl, hA6, hG⟩
 have hw8 := hG _ _ _ _ hw7
 try clear hG hw7
 simp only [List.cons_append, List.nil_append] at hw8
 refine l_move rfl rfl rfl (l_extract rfl rfl rfl rfl (l_extract rfl rfl rfl rfl (l_assign rfl rfl rfl (l_assign rfl rfl rfl (l_nil ?_)))))
 refine e_then ?_
 refine c_keep [9, 12, 13, 14, 15, 16, 17, 18, 19, 20, 21, 22, 23] (.cons rfl (.cons rfl (.cons rfl (.cons rfl (.cons rfl (.cons rfl (.cons rfl (.cons rfl (.cons rfl (.cons rfl (.cons rfl (.cons rfl (.cons rfl .nil))))))))))))) ?_
 refine c_seq (c_region ?_)
 obtain ⟨rfl, rfl, hl1, hs1⟩ := hA1.sign hk ⟨hm0, hm1⟩ hA2
 obtain ⟨rfl, rfl, hs2⟩ := hA3.sign hk ⟨hm0, hm1⟩ ⟨hq0, hq1⟩ hA4
 obtain ⟨rfl, rfl, hs3⟩ := hA5.sign hk ⟨hm0, hm1⟩ ⟨hq0, hq1⟩ hA6
 rw [← hah] at hs1 hs2 hs3
 have hn1 := hA1.len hm0
 have hn3 := hA3.len hm0
 have hn5 := hA5.len hm0
 have hahl : ah.length ≤ 1 := by rw [hah]; split <;> simp
 refine l_move rfl rfl rfl ?_
 refine l_callp rfl rfl Tryd.func9 rfl rfl (.cons rfl .nil) (numL11 _ _) ?_
 refine l_eql rfl rfl rfl rfl ?_
 refine l_turn (s := 97) (v' := .bool true) rfl (by simp) ?_
 refine l_move rfl rfl rfl (l_move rfl rfl rfl ?_)
 refine l_callp rfl rfl Tryd.func9 rfl rfl (.cons rfl .nil) (numL11 _ _) ?_
 refine l_eql rfl rfl rfl rfl ?_
 refine l_turn (s := 101) (v' := .bool true) rfl (by simp) ?_
 refine l_pick_t rfl rfl rfl rfl ?_
 refine l_move rfl rfl rfl (l_move rfl rfl rfl ?_)
 refine l_callp rfl rfl Tryd.func9 rfl rfl (.cons rfl .nil) (numL11 _ _) ?_
 refine l_eql rfl rfl rfl rfl ?_
 refine l_turn (s := 106) (v' := .bool true) rfl (by simp) ?_
 refine l_pick_t rfl rfl rfl rfl ?_
 refine l_move rfl rfl rfl (l_move rfl rfl rfl ?_)
 refine l_callp rfl rfl Tryd.func9 rfl rfl (.cons rfl .nil) (numL11 _ _) ?_
 refine l_eql rfl rfl rfl rfl ?_
 refine l_turn (s := 111) (v' := .bool true) rfl (by simp) ?_
 refine l_pick_t rfl rfl rfl rfl ?_
 refine l_move rfl rfl rfl (l_move rfl rfl rfl ?_)
 refine l_callp rfl rfl Tryd.func9 rfl rfl (.cons rfl .nil) (numL11 _ _) ?_
 refine l_eql rfl rfl rfl rfl ?_
 refine l_turn (s := 116) (v' := .bool true) rfl (by simp) ?_
 refine l_pick_t rfl rfl rfl rfl ?_
 refine l_move rfl rfl rfl (l_move rfl rfl rfl ?_)
 refine l_callp rfl rfl Tryd.func9 rfl rfl (.cons rfl .nil) (numL11 _ _) ?_
 refine l_eql rfl rfl rfl rfl ?_
 refine l_turn (s := 121) (v' := .bool true) rfl (by simp) ?_
 refine l_pick_t rfl rfl rfl rfl ?_
 refine l_move rfl rfl rfl (l_move rfl rfl rfl ?_)
 refine v_lenb rfl rfl Tryd.underlying25 rfl (by first | exact hw8.io mem0 | exact hw8.io mem1 | exact hw8.io mem2 | exact hw8.io mem3 | exact hw8.io mem4 | exact hw8.io mem5 | assumption) ?_
 refine l_gtr rfl rfl rfl rfl ?_
 refine l_turn (s := 126) (v' := .bool true) rfl (by rw [decide_eq_true (by omega)]) ?_
 refine l_pick_t rfl rfl rfl rfl ?_
 refine l_assign rfl rfl rfl (l_nil (e_then ?_))
 refine c_keep [9, 12, 14, 16, 18, 20, 22, 24] (.cons rfl (.cons rfl (.cons rfl (.cons rfl (.cons rfl (.cons rfl (.cons rfl (.cons rfl .nil)))))))) ?_
 refine c_seq (c_region (l_move rfl rfl rfl ?_))
 refine l_turn (s := 128) (v' := .bool true) rfl (by rfl) ?_
 refine l_move rfl rfl rfl (l_move rfl rfl rfl ?_)
 refine v_tostr (l := t2) rfl rfl Tryd.underlying25 Tryd.underlying5 Tryd.underlying9 rfl (by first | exact hw8.io mem0 | exact hw8.io mem1 | exact hw8.io mem2 | exact hw8.io mem3 | exact hw8.io mem4 | exact hw8.io mem5 | assumption) ?_
 refine l_move rfl rfl rfl (l_move rfl rfl rfl ?_)
 refine v_tostr (l := t1) rfl rfl Tryd.underlying25 Tryd.underlying5 Tryd.underlying9 rfl (by first | exact hw8.io mem0 | exact hw8.io mem1 | exact hw8.io mem2 | exact hw8.io mem3 | exact hw8.io mem4 | exact hw8.io mem5 | assumption) ?_
 refine l_adds rfl rfl rfl rfl (by first | omega | (simp only [List.length_append, List.length_cons, List.length_nil] at *; omega)) ?_
 refine l_eqls rfl rfl rfl rfl ?_
 refine l_turn (s := 136) (v' := .bool true) rfl (by rw [decide_eq_true hs1]) ?_
 refine l_pick_t rfl rfl rfl rfl ?_
 refine l_move rfl rfl rfl (l_move rfl rfl rfl ?_)
 refine v_tostr (l := t4) rfl rfl Tryd.underlying25 Tryd.underlying5 Tryd.underlying9 rfl (by first | exact hw8.io mem0 | exact hw8.io mem1 | exact hw8.io mem2 | exact hw8.io mem3 | exact hw8.io mem4 | exact hw8.io mem5 | assumption) ?_
 refine l_move rfl rfl rfl (l_move rfl rfl rfl ?_)
 refine v_tostr (l := t3) rfl rfl Tryd.underlying25 Tryd.underlying5 Tryd.underlying9 rfl (by first | exact hw8.io mem0 | exact hw8.io mem1 | exact hw8.io mem2 | exact hw8.io mem3 | exact hw8.io mem4 | exact hw8.io mem5 | assumption) ?_
 refine l_adds rfl rfl rfl rfl (by first | omega | (simp only [List.length_append, List.length_cons, List.length_nil] at *; omega)) ?_
 refine l_eqls rfl rfl rfl rfl ?_
 refine l_turn (s := 145) (v' := .bool true) rfl (by rw [decide_eq_true hs2]) ?_
 refine l_pick_t rfl rfl rfl rfl ?_
 refine l_move rfl rfl rfl (l_move rfl rfl rfl ?_)
 refine v_tostr rfl rfl Tryd.underlying25 Tryd.underlying5 Tryd.underlying9 rfl (by first | exact hw8.io mem0 | exact hw8.io mem1 | exact hw8.io mem2 | exact hw8.io mem3 | exact hw8.io mem4 | exact hw8.io mem5 | assumption) ?_
 refine l_move rfl rfl rfl (l_move rfl rfl rfl ?_)
 refine v_tostr rfl rfl Tryd.underlying25 Tryd.underlying5 Tryd.underlying9 rfl (by first | exact hw8.io mem0 | exact hw8.io mem1 | exact hw8.io mem2 | exact hw8.io mem3 | exact hw8.io mem4 | exact hw8.io mem5 | assumption) ?_
 refine l_adds rfl rfl rfl rfl (by first | omega | (simp only [List.length_append, List.length_cons, List.length_nil] at *; omega)) ?_
 refine l_eqls rfl rfl rfl rfl ?_
 refine l_turn (s := 154) (v' := .bool true) rfl (by rw [decide_eq_true hs3]) ?_
 refine l_pick_t rfl rfl rfl rfl ?_
 refine l_move rfl rfl rfl ?_
 refine l_call rfl rfl Tryd.func10 rfl rfl .nil (wakesL11 w8 (tab_keep hT (fun k hk hf => hw8.ext.block k hk hf))) ?_
 rintro _ w9 ⟨rfl, hG⟩
 have hw9 := hG _ _ _ _ hw8
 try clear hG hw8
 simp only [List.cons_append, List.nil_append] at hw9
 refine l_turn (s := 157) (v' := .bool true) rfl (by rfl) ?_
 refine l_pick_t rfl rfl rfl rfl ?_
 refine l_assign rfl rfl rfl (l_nil (e_then ?_))
 refine c_keep [6] (.cons rfl .nil) ?_
 refine c_ret ?_
 refine e_done1 Tryd.results4 rfl ?_
 refine ⟨_, rfl, ?_⟩
 have hw10 := St.del (.tail (.tail (.tail (.tail (.tail .head))))) hw9
 try clear hw9
 have hw11 := St.del (.tail (.tail (.tail (.tail .head)))) hw10
 try clear hw10
 have hw12 := St.del (.tail (.tail (.tail .head))) hw11
 try clear hw11
 have hw13 := St.del (.tail (.tail .head)) hw12
 try clear hw12
 have hw14 := St.del (.tail .head) hw13
 try clear hw13
 have hw15 := St.del .head hw14
 try clear hw14
 exact ⟨rfl, hw15.grows⟩
end Go.Proofs.YtojjlipcjdaejaaDoor.W
