/- walks of print.first, print.Exponent -/
import Derived.Test.YtojjlipcjdaejaaDoorPf
set_option linter.unusedVariables false
set_option linter.unusedSimpArgs false
set_option maxRecDepth 10000
namespace Go.Proofs.YtojjlipcjdaejaaDoor.W
open Go.Vc Go.RowKit
theorem est_low : ∀ i : Fin 2200, -340 ≤ estE ((i.val : Int) - 1100) := by decide +kernel
theorem flt_low {d : Kd} {b x y t : Int} (h : Flt d b x y) (ht : estE (Ma.blen x - Ma.blen y) ≤ t) : -340 ≤ t := by
 have h1 := h.bx
 have h2 := h.by'
 have h3 : 0 ≤ Ma.blen x := Ma.blen_nonneg x
 have h4 : 0 ≤ Ma.blen y := Ma.blen_nonneg y
 have := est_low ⟨(Ma.blen x - Ma.blen y + 1100).toNat, by omega⟩
 rw [show (((Ma.blen x - Ma.blen y + 1100).toNat : Nat) : Int) - 1100 = Ma.blen x - Ma.blen y by omega] at this
 omega
def exB (R n t : Int) : List UInt8 := if n + 1 < ((dtx R).length : Int) then ptT ((dtx R).take (n.toNat + 1)) 1 ++ exT (t + 1) else ptT (dtx R) 1 ++ exT t
def ExT (k b n e : Int) (t : List UInt8) : Prop := e = askE k b n ∧ (e ≠ 0 → t = []) ∧ (e = 0 → ∃ d body, kd k = some d ∧ b < 2 * d.S ∧ t = wdT d b body ∧ (b % d.S = 0 → body = ptT (zsT (n + 1)) 1 ++ exT 0) ∧
 (0 < b % d.S → b % d.S < d.I → ∃ x, TopR (fX d (b % d.S)) (fY d (b % d.S)) x ∧ body = exB (rnE (fN (fX d (b % d.S)) (-(n - x))) (fD (fY d (b % d.S)) (-(n - x)))) n x))
theorem ExT.unique {k b n e e' : Int} {t t' : List UInt8} (hb : 0 ≤ b) (h : ExT k b n e t) (g : ExT k b n e' t') : e = e' ∧ t = t' := by
 have he : e = e' := h.1.trans g.1.symm
 subst he
 refine ⟨rfl, ?_⟩
 by_cases h0 : e = 0
 ·obtain ⟨d, bd, hd, _, h1, h2, h3⟩ := h.2.2 h0
  obtain ⟨d', bd', hd', _, g1, g2, g3⟩ := g.2.2 h0
  rw [hd] at hd'
  cases hd'
  have hbd := d.bd
  have hm := Int.emod_nonneg b (show d.S ≠ 0 by omega)
  rcases Int.lt_or_le (b % d.S) d.I with h4 | h4
  ·rcases Int.lt_or_eq_of_le hm with h5 | h5
   ·obtain ⟨x, hx, e1⟩ := h3 h5 h4
    obtain ⟨x', hx', e1'⟩ := g3 h5 h4
    obtain rfl := hx.unique (fY_pos _ _) hx'
    rw [h1, g1, e1, e1']
   ·rw [h1, g1, h2 h5.symm, g2 h5.symm]
  ·rw [h1, g1]
   exact wdT_over h4
 ·rw [h.2.1 h0, g.2.1 h0]
theorem ex_len {x y t n : Int} (hy : 0 < y) (hn : 0 ≤ n) (h : TopR x y t) : n + 1 ≤ ((dtx (rnE (fN x (-(n - t))) (fD y (-(n - t))))).length : Int) ∧ ((dtx (rnE (fN x (-(n - t))) (fD y (-(n - t))))).length : Int) ≤ n + 2 := by
 obtain ⟨k, rfl⟩ : ∃ k : Nat, n = k := ⟨n.toNat, by omega⟩
 have hr := rn_digs hy h k
 rw [show -((k : Int) - t) = t - k by omega]
 have hp : 0 < rnE (fN x (t - k)) (fD y (t - k)) := by
  rcases Int.lt_or_le 0 (rnE (fN x (t - k)) (fD y (t - k))) with h1 | h1
  ·exact h1
  ·exfalso
   have : dl (rnE (fN x (t - k)) (fD y (t - k))) = 0 := by unfold dl; rw [show (rnE (fN x (t - k)) (fD y (t - k))).toNat = 0 by omega, dt0_zero]; rfl
   omega
 rw [dl_dtx hp]
 omega
theorem firstX (k b : Int) (d : Kd) (hk : kd k = some d) (hb : 0 ≤ b ∧ b ≤ 18446744073709551615) (hltS : b < 2 * d.S) (hf : b % d.S < d.I) (neg : Bool) (w : World) :
  CallsV P 38 [.int .i64 k, .int .u64 b, .agg #[.bool neg, .int .u64 (splM d (b % d.S)), .int .i64 (splE d (b % d.S))]] w fun r w' => ∃ t, r = .int .i64 t ∧ -340 ≤ t ∧ t ≤ 400 ∧ (b % d.S = 0 → t = 0) ∧ (0 < b % d.S → TopR (fX d (b % d.S)) (fY d (b % d.S)) t) ∧ Grow w w' [] := by
 refine enterW Tryd.func38 rfl Tryd.ntmps38 rfl ?_
 have hw0 := St.start w
 have hbd := d.bd
 have hms := mod_S d ⟨hb.1, hltS⟩
 have hz : splM d (b % d.S) = 0 ↔ b % d.S = 0 := by
  constructor
  ·intro h
   rcases Int.lt_or_eq_of_le (show 0 ≤ b % d.S by omega) with h1 | h1
   ·have := splM_pos (d := d) (b := b % d.S) ⟨h1, hf⟩
    omega
   ·exact h1.symm
  ·intro h
   unfold splM
   rw [h, Int.zero_emod, if_pos (by omega)]
 refine c_seq (c_region ?_)
 refine l_box hw0 rfl rfl rfl (fun b0_0 w1 hw1 => ?_)
 try clear hw0
 refine l_assign rfl rfl rfl (l_nil (e_then ?_))
 refine c_keep [0, 1, 5] (.cons rfl (.cons rfl (.cons rfl .nil))) ?_
 refine c_seq (c_seq (c_region (l_field fo30_1 rfl rfl rfl ?_)))
 refine l_load_blk hw1 mem0 rfl rfl Tryd.underlying22 rfl rfl rfl ?_
 refine l_eql rfl rfl rfl rfl ?_
 refine l_nil (e_then ?_)
 refine c_keep [0, 1, 5, 15] (.cons rfl (.cons rfl (.cons rfl (.cons rfl .nil)))) ?_
 first | refine c_cond rfl (fun hc0 => ?_) (fun hc0 => ?_) | refine c_condb rfl (fun hc0 => ?_) (fun hc0 => ?_)
 ·skip
  refine c_seq (c_region (l_assign rfl rfl rfl (l_nil (e_then ?_))))
  refine c_keep [6] (.cons rfl .nil) ?_
  refine c_ret ?_
  refine e_then_ret ?_
  refine e_done1 Tryd.results38 rfl ?_
  refine ⟨_, rfl, ?_⟩
  have hw2 := St.del .head hw1
  try clear hw1
  exact ⟨0, rfl, by omega, by omega, fun _ => rfl, fun h => absurd (hz.1 hc0) (by omega), hw2.grows⟩
 ·skip
  have hpos : 0 < b % d.S := by
   have : ¬ b % d.S = 0 := fun h => hc0 (hz.2 h)
   omega
  have hfl := flt_of ⟨hpos, hf⟩
  obtain ⟨t, ht, het, hlo4, hhi3, _⟩ := flt_top hfl
  have hlo3 := flt_low hfl het
  refine c_skip (e_then ?_)
  refine c_keep [0, 1, 5] (.cons rfl (.cons rfl (.cons rfl .nil))) ?_
  refine c_seq (c_region (l_move rfl rfl rfl (l_move rfl rfl rfl ?_)))
  refine l_call rfl rfl Tryd.func35 rfl rfl (.cons rfl (.cons rfl .nil)) (DigitsF k b hb w1) ?_
  rintro _ w3 ⟨m, x, er, rfl, hE, hG⟩
  have hw3 := hG _ _ _ _ hw1
  try clear hG hw1
  simp only [List.cons_append, List.nil_append] at hw3
  obtain rfl : er = 0 := hE.1.trans (ofE_is hk hltS ⟨hpos, hf⟩)
  obtain ⟨d', hd', _, _, _, hDig⟩ := hE.2.2 rfl
  rw [hk] at hd'
  cases hd'
  have hbdE := hDig.bd ⟨hpos, hf⟩
  have hml := dtx_le (x := m) (by omega)
  have hsz := size_of ⟨hpos, hf⟩ hDig ht
  rw [← dl_dtx hbdE.1] at hsz
  have hqz := q_zero (Int.le_of_lt hfl.hx) hfl.hy ht (e := (((dtx m).length : Int) + x - 1))
  refine l_move rfl rfl rfl (l_extract rfl rfl rfl rfl (l_extract rfl rfl rfl rfl (l_extract rfl rfl rfl rfl (l_assign rfl rfl rfl (l_assign rfl rfl rfl ?_)))))
  refine l_assign rfl rfl rfl (l_nil (e_then ?_))
  refine c_keep [5, 7, 8] (.cons rfl (.cons rfl (.cons rfl .nil))) ?_
  refine c_seq (c_region (l_move rfl rfl rfl ?_))
  refine l_callp rfl rfl Tryd.func50 rfl rfl (.cons rfl .nil) (countD m (by omega) w3) ?_
  refine l_move rfl rfl rfl ?_
  refine l_add rfl rfl rfl rfl (w_i64 (by omega)) ?_
  refine l_sub rfl rfl rfl rfl (w_i64 (by omega)) ?_
  refine l_assign rfl rfl rfl (l_nil (e_then ?_))
  refine c_keep [5, 10] (.cons rfl (.cons rfl .nil)) ?_
  refine c_seq (c_seq (c_region ?_))
  refine l_load_agg hw3 mem0 rfl rfl Tryd.underlying30 rfl tz30 rfl (.take (.take (.take .nil))) ?_
  refine l_move rfl rfl rfl ?_
  refine l_neg rfl rfl rfl (w_i64 (by omega)) ?_
  refine l_call rfl rfl Tryd.func39 rfl rfl (.cons rfl (.cons rfl .nil)) (partsP neg d (b % d.S) (0 - (((dtx m).length : Int) + x - 1)) (by omega) (by omega) w3) ?_
  rintro _ w4 ⟨vq, lq, rfl, hcq, hG⟩
  have hw4 := hG _ _ _ _ hw3
  try clear hG hw3
  simp only [List.cons_append, List.nil_append] at hw4
  have hql : (lq.length : Int) = 0 ↔ fQ (fX d (b % d.S)) (fY d (b % d.S)) (((dtx m).length : Int) + x - 1) = 0 := by
   have h := hcq.nil_iff (by omega)
   rw [show -(0 - (((dtx m).length : Int) + x - 1)) = (((dtx m).length : Int) + x - 1) by omega] at h
   rw [show fQ (fX d (b % d.S)) (fY d (b % d.S)) (((dtx m).length : Int) + x - 1) = fN (fX d (b % d.S)) (((dtx m).length : Int) + x - 1) / fD (fY d (b % d.S)) (((dtx m).length : Int) + x - 1) from rfl, ← h, ← List.length_eq_zero_iff]
   omega
  have hlq : lq.length ≤ 1048576 := by
   have hxy := fX_blen (d := d) (b := b % d.S) (by omega)
   have hN0 := fN_nonneg hxy.1 (-(0 - (((dtx m).length : Int) + x - 1)))
   have hNb := fN_blen hxy.1 (e := -(0 - (((dtx m).length : Int) + x - 1))) (by omega) (by omega)
   have hD0 := fD_pos (fY_pos d (b % d.S)) (-(0 - (((dtx m).length : Int) + x - 1)))
   have h1 := Int.ediv_le_self (fD (fY d (b % d.S)) (-(0 - (((dtx m).length : Int) + x - 1)))) hN0
   have h2 := Ma.blen_mono (Int.ediv_nonneg hN0 (Int.le_of_lt hD0)) h1
   have := cn_lenb hcq (k := 2881) (Int.le_trans h2 hNb)
   omega
  refine l_move rfl rfl rfl (l_extract rfl rfl rfl rfl (l_extract rfl rfl rfl rfl (l_assign rfl rfl rfl (l_assign rfl rfl rfl (l_nil ?_)))))
  refine e_then ?_
  refine c_keep [10, 11] (.cons rfl (.cons rfl .nil)) ?_
  refine c_seq (c_region (l_move rfl rfl rfl ?_))
  refine v_leni rfl rfl Tryd.underlying62 rfl (by first | exact hw4.io mem0 | exact hw4.ibl mem1 | assumption) ?_
  refine l_eql rfl rfl rfl rfl ?_
  refine l_nil (e_then ?_)
  refine c_keep [10, 37] (.cons rfl (.cons rfl .nil)) ?_
  first | refine c_cond rfl (fun hc1 => ?_) (fun hc1 => ?_) | refine c_condb rfl (fun hc1 => ?_) (fun hc1 => ?_)
  ·skip
   refine c_region (l_move rfl rfl rfl ?_)
   refine l_sub rfl rfl rfl rfl (w_i64 (by omega)) ?_
   refine l_assign rfl rfl rfl (l_nil (e_then ?_))
   refine c_keep [10] (.cons rfl .nil) ?_
   refine c_seq (c_region (l_move rfl rfl rfl (l_assign rfl rfl rfl (l_nil (e_then ?_)))))
   refine c_keep [6] (.cons rfl .nil) ?_
   refine c_ret ?_
   refine e_done1 Tryd.results38 rfl ?_
   refine ⟨_, rfl, ?_⟩
   have hw5 := St.del (.tail .head) hw4
   try clear hw4
   have hw6 := St.del .head hw5
   try clear hw5
   refine ⟨t, congrArg (Value.int .i64) (by have := hqz.1 (hql.1 hc1); omega), by omega, by omega, fun h => absurd h (by omega), fun _ => ht, hw6.grows⟩
  ·skip
   refine c_skip (e_then ?_)
   refine c_keep [10] (.cons rfl .nil) ?_
   refine c_seq (c_region (l_move rfl rfl rfl (l_assign rfl rfl rfl (l_nil (e_then ?_)))))
   refine c_keep [6] (.cons rfl .nil) ?_
   refine c_ret ?_
   refine e_done1 Tryd.results38 rfl ?_
   refine ⟨_, rfl, ?_⟩
   have hw7 := St.del (.tail .head) hw4
   try clear hw4
   have hw8 := St.del .head hw7
   try clear hw7
   refine ⟨t, congrArg (Value.int .i64) (by have : ¬ t < (((dtx m).length : Int) + x - 1) := fun h => hc1 (hql.2 (hqz.2 h)); omega), by omega, by omega, fun h => absurd h (by omega), fun _ => ht, hw8.grows⟩
theorem ExponentP (k b : Int) (hb : 0 ≤ b ∧ b ≤ 18446744073709551615) (n : Int) (hn : -9223372036854775808 ≤ n ∧ n ≤ 9223372036854775807) (w : World) (hT : TabP w) :
  CallsV P 22 [.int .i64 k, .int .u64 b, .int .i64 n] w fun r w' => ∃ v e t, r = .tuple #[v, .int .i64 e] ∧ ExT k b n e t ∧ Grow w w' [As.rb 5 v t] := by
 refine enterW Tryd.func22 rfl Tryd.ntmps22 rfl ?_
 have hw0 := St.start w
 have hTT : ∀ w1 : World, (∀ k, k < w.heap.size → ¬ None' k → w1.heap[k]? = w.heap[k]?) → TabP w1 := fun w1 h => tab_keep hT h
 refine c_seq (c_region (l_assign rfl rfl rfl (l_assign rfl rfl rfl (l_nil (e_then ?_)))))
 refine c_keep [0, 1, 2] (.cons rfl (.cons rfl (.cons rfl .nil))) ?_
 refine c_seq (c_region (l_move rfl rfl rfl (l_move rfl rfl rfl (l_move rfl rfl rfl ?_))))
 refine l_call rfl rfl Tryd.func23 rfl rfl (.cons rfl (.cons rfl (.cons rfl .nil))) (askedP k b hb n hn w) ?_
 rintro _ w1 ⟨p, n1, n2, n3, over, e, A1, A2, rfl, hA, hG⟩
 have hw1 := hG _ _ _ _ hw0
 try clear hG hw0
 simp only [List.cons_append, List.nil_append] at hw1
 refine l_move rfl rfl rfl (l_extract rfl rfl rfl rfl (l_extract rfl rfl rfl rfl (l_extract rfl rfl rfl rfl (l_extract rfl rfl rfl rfl ?_))))
 refine l_alloc hw1 ta30 rfl rfl (fun b1_9 w2 hw2 => ?_)
 try clear hw1
 refine l_assign rfl rfl rfl ?_
 refine l_store_blks hw2 .head (.zero (.zero (.zero .nil))) rfl tz30 rfl rfl (by first | (simp [Value.oneCell']; done) | (intro u hu; simp only [List.mem_cons, List.not_mem_nil, or_false] at hu; rcases hu with rfl | rfl | rfl <;> first | rfl | assumption)) (fun w3 hw3 => ?_)
 try clear hw2
 refine l_assign rfl rfl rfl (l_assign rfl rfl rfl (l_nil (e_then ?_)))
 refine c_keep [0, 1, 2, 8, 9, 10, 11] (.cons rfl (.cons rfl (.cons rfl (.cons rfl (.cons rfl (.cons rfl (.cons rfl .nil))))))) ?_
 refine c_seq (c_block (c_seq (c_region (l_move rfl rfl rfl ?_))))
 refine l_neq rfl rfl rfl rfl ?_
 refine l_assign rfl rfl rfl (l_nil (e_then ?_))
 refine c_keep [0, 1, 2, 8, 9, 10, 11, 24] (.cons rfl (.cons rfl (.cons rfl (.cons rfl (.cons rfl (.cons rfl (.cons rfl (.cons rfl .nil)))))))) ?_
 first | refine c_cond rfl (fun hc0 => ?_) (fun hc0 => ?_) | refine c_condb rfl (fun hc0 => ?_) (fun hc0 => ?_)
 ·skip
  refine c_seq (c_region (l_move rfl rfl rfl (l_assign rfl rfl rfl (l_assign rfl rfl rfl (l_nil ?_)))))
  refine e_then ?_
  refine c_keep [6, 7] (.cons rfl (.cons rfl .nil)) ?_
  refine c_ret ?_
  refine e_blk_ret ?_
  refine e_then_ret ?_
  refine e_done2 Tryd.results22 rfl rfl ?_
  refine ⟨_, rfl, ?_⟩
  have hw4 := St.front2 hw3
  try clear hw3
  have hw5 := St.del (.tail (.tail .head)) hw4
  try clear hw4
  have hw6 := St.del (.tail .head) hw5
  try clear hw5
  have hw7 := St.del .head hw6
  try clear hw6
  exact ⟨_, e, [], rfl, ⟨hA.1, fun _ => rfl, fun h => absurd h hc0⟩, (hw7.nil 5).grows⟩
 ·skip
  have he0 : e = 0 := by omega
  obtain ⟨hn0, hn40, hB⟩ := hA.2 he0
  obtain ⟨d, lb, vt, t, hk, hltS, rfl, rfl, rfl, htl, hov, hnov⟩ := hB.2 rfl
  have hbd := d.bd
  have hms := mod_S d ⟨hb.1, hltS⟩
  refine c_seq (c_region (l_move rfl rfl rfl (l_assign rfl rfl rfl (l_nil (e_then ?_)))))
  refine c_keep [0, 1, 2, 8, 9, 28] (.cons rfl (.cons rfl (.cons rfl (.cons rfl (.cons rfl (.cons rfl .nil)))))) ?_
  first | refine c_cond rfl (fun hc1 => ?_) (fun hc1 => ?_) | refine c_condb rfl (fun hc1 => ?_) (fun hc1 => ?_)
  ·skip
   refine c_seq (c_region (l_move rfl rfl rfl (l_nilCheck rfl rfl rfl (l_field fo52_0 rfl rfl rfl ?_))))
   refine l_load_blk hw3 mem1 rfl rfl Tryd.underlying25 rfl rfl rfl ?_
   refine l_assign rfl rfl rfl (l_assign rfl rfl rfl (l_nil (e_then ?_)))
   refine c_keep [6, 7] (.cons rfl (.cons rfl .nil)) ?_
   refine c_ret ?_
   refine e_blk_ret ?_
   refine e_then_ret ?_
   refine e_done2 Tryd.results22 rfl rfl ?_
   refine ⟨_, rfl, ?_⟩
   have hw8 := St.front2 hw3
   try clear hw3
   have hw9 := St.del (.tail (.tail .head)) hw8
   try clear hw8
   have hw10 := St.del (.tail .head) hw9
   try clear hw9
   exact ⟨_, 0, _, rfl, ⟨he0 ▸ hA.1, fun h => absurd rfl h, fun _ => ⟨d, (if b % d.S = 0 then ptT (zsT (n + 1)) 1 ++ exT 0 else []), hk, hltS, by rw [(hov hc1).2]; exact wdT_over (hov hc1).1, fun h => if_pos h, fun h1 h2 => absurd h2 (by have := (hov hc1).1; omega)⟩⟩, hw10.grows⟩
  ·skip
   obtain ⟨hfin, htS, hR⟩ := hnov (by simpa using hc1)
   obtain ⟨rfl, rfl, rfl⟩ : n1 = decide (d.S ≤ b) ∧ n2 = splM d (b % d.S) ∧ n3 = splE d (b % d.S) := by simpa using hR
   have hz : splM d (b % d.S) = 0 ↔ b % d.S = 0 := by
    constructor
    ·intro h
     rcases Int.lt_or_eq_of_le (show 0 ≤ b % d.S by omega) with h1 | h1
     ·have := splM_pos (d := d) (b := b % d.S) ⟨h1, hfin⟩
      omega
     ·exact h1.symm
    ·intro h
     unfold splM
     rw [h, Int.zero_emod, if_pos (by omega)]
   refine c_skip ?_
   refine e_blk ?_
   refine e_then ?_
   refine c_keep [0, 1, 2, 8, 9] (.cons rfl (.cons rfl (.cons rfl (.cons rfl (.cons rfl .nil))))) ?_
   refine c_seq (c_region (l_move rfl rfl rfl (l_move rfl rfl rfl ?_)))
   refine l_load_agg hw3 mem0 rfl rfl Tryd.underlying30 rfl tz30 rfl (.take (.take (.take .nil))) ?_
   refine l_call rfl rfl Tryd.func38 rfl rfl (.cons rfl (.cons rfl (.cons rfl .nil))) (firstX k b d hk hb hltS hfin (decide (d.S ≤ b)) w3) ?_
   rintro _ w11 ⟨x, rfl, hx1, hx2, hx0, hxt, hG⟩
   have hw11 := hG _ _ _ _ hw3
   try clear hG hw3
   simp only [List.cons_append, List.nil_append] at hw11
   refine l_assign rfl rfl rfl (l_assign rfl rfl rfl (l_nil (e_then ?_)))
   refine c_keep [2, 8, 9, 12] (.cons rfl (.cons rfl (.cons rfl (.cons rfl .nil)))) ?_
   refine c_cutk (ι := Value × List UInt8) (fun (z0 : Value × List UInt8) (w' : World) => match z0 with | ⟨vd2, ds⟩ => St w w.heap.size None' ([As.iv vd2 (bys ds), As.blk lb 52 [vt], As.rb 5 vt t]) w' ∧ (b % d.S = 0 → ds = zsT (n + 1)) ∧ (0 < b % d.S → ds = dtx (rnE (fN (fX d (b % d.S)) (-(n - x))) (fD (fY d (b % d.S)) (-(n - x))))) ∧ n + 1 ≤ (ds.length : Int) ∧ (ds.length : Int) ≤ n + 2) (fun (z0 : Value × List UInt8) => match z0 with | ⟨vd2, ds⟩ => [(13, vd2)]) [2, 8, 12] (.cons rfl (.cons rfl (.cons rfl .nil))) ?_ ?_
   ·skip
    refine c_seq (c_region (l_field fo30_1 rfl rfl rfl ?_))
    refine l_load_blk hw11 mem0 rfl rfl Tryd.underlying22 rfl rfl rfl ?_
    refine l_eql rfl rfl rfl rfl ?_
    refine l_nil (e_then ?_)
    refine c_keep [2, 8, 9, 12, 40] (.cons rfl (.cons rfl (.cons rfl (.cons rfl (.cons rfl .nil))))) ?_
    first | refine c_cond rfl (fun hc2 => ?_) (fun hc2 => ?_) | refine c_condb rfl (fun hc2 => ?_) (fun hc2 => ?_)
    ·skip
     refine c_seq (c_region ?_)
     refine l_buildS rfl rfl pl52 ta52 .nil ?_
     refine l_box hw11 rfl rfl rfl (fun b8_1 w12 hw12 => ?_)
     try clear hw11
     refine l_assign rfl rfl rfl (l_nil (e_then ?_))
     refine c_keep [2, 8, 12, 14] (.cons rfl (.cons rfl (.cons rfl (.cons rfl .nil)))) ?_
     refine c_seq (c_region ?_)
     have hw13 := hw12.nil 5
     try clear hw12
     refine l_move rfl rfl rfl (l_move rfl rfl rfl ?_)
     refine l_add rfl rfl rfl rfl (w_i64 (by omega)) ?_
     have hw14 := St.frontL (l := [_]) hw13
     simp only [List.cons_append, List.nil_append] at hw14
     try clear hw13
     refine l_call rfl rfl Tryd.func25 rfl rfl (.cons rfl (.cons rfl .nil)) (noughtsP b8_1 (.slice none 0 0) [] (by simp) (n + 1) (by omega) w12 (St.rows (τ := [As.blk b8_1 52 [.slice none 0 0], As.rb 5 (.slice none 0 0) []]) hw14)) ?_
     rintro _ w15 ⟨v1, rfl, hX⟩
     have hw15 := hX _ _ _ _ hw14
     simp only [List.cons_append, List.nil_append] at hw15
     try clear hX hw14
     refine l_nil (e_then ?_)
     refine c_keep [2, 8, 12, 14] (.cons rfl (.cons rfl (.cons rfl (.cons rfl .nil)))) ?_
     refine c_region (l_move rfl rfl rfl (l_nilCheck rfl rfl rfl (l_field fo52_0 rfl rfl rfl ?_)))
     refine l_load_blk hw15 mem0 rfl rfl Tryd.underlying25 rfl rfl rfl ?_
     refine l_assign rfl rfl rfl (l_nil ?_)
     have hw16 := St.frontL (l := [_, _, _, _]) hw15
     simp only [List.cons_append, List.nil_append] at hw16
     try clear hw15
     have hw17 := St.frontL (l := [_, _, _, _]) hw16
     simp only [List.cons_append, List.nil_append] at hw17
     try clear hw16
     have hw18 := St.frontL (l := [_, _, _]) hw17
     simp only [List.cons_append, List.nil_append] at hw18
     try clear hw17
     have hw19 := St.del (.tail (.tail (.tail (.tail .head)))) hw18
     try clear hw18
     have hw20 := St.del (.tail (.tail (.tail .head))) hw19
     try clear hw19
     refine e_meetk (v1, zsT (n + 1)) ?_ (.cons rfl (.cons rfl (.cons rfl .nil))) ?_
     ·have hzl : (zsT (n + 1)).length = (n + 1).toNat := by unfold zsT; rw [List.length_replicate]
      exact ⟨St.ro_iv hw20, fun _ => rfl, fun h => absurd (hz.1 hc2) (by omega), by omega, by omega⟩
     ·exact (.cons rfl (by first | rfl | (refine congrArg (Value.int _) ?_; omega)) .nil)
    ·skip
     have hpos : 0 < b % d.S := by
      have : ¬ b % d.S = 0 := fun h => hc2 (hz.2 h)
      omega
     have hel := ex_len (fY_pos d (b % d.S)) hn0 (hxt hpos)
     refine c_region ?_
     refine l_load_agg hw11 mem0 rfl rfl Tryd.underlying30 rfl tz30 rfl (.take (.take (.take .nil))) ?_
     refine l_move rfl rfl rfl (l_move rfl rfl rfl ?_)
     refine l_sub rfl rfl rfl rfl (w_i64 (by omega)) ?_
     refine l_call rfl rfl Tryd.func24 rfl rfl (.cons rfl (.cons rfl .nil)) (roundedP (decide (d.S ≤ b)) d (b % d.S) (n - x) (by omega) (by omega) w11) ?_
     rintro vd w21 ⟨_, rfl, hG⟩
     have hw21 := hG _ _ _ _ hw11
     try clear hG hw11
     simp only [List.cons_append, List.nil_append] at hw21
     refine l_assign rfl rfl rfl (l_nil ?_)
     have hw22 := St.frontL (l := [_, _, _]) hw21
     simp only [List.cons_append, List.nil_append] at hw22
     try clear hw21
     have hw23 := St.frontL (l := [_, _, _]) hw22
     simp only [List.cons_append, List.nil_append] at hw23
     try clear hw22
     have hw24 := St.frontL (l := [_, _]) hw23
     simp only [List.cons_append, List.nil_append] at hw24
     try clear hw23
     have hw25 := St.del (.tail (.tail (.tail .head))) hw24
     try clear hw24
     refine e_meetk (vd, dtx (rnE (fN (fX d (b % d.S)) (-(n - x))) (fD (fY d (b % d.S)) (-(n - x))))) ?_ (.cons rfl (.cons rfl (.cons rfl .nil))) ?_
     ·exact ⟨hw25, fun h => absurd h (by omega), fun _ => rfl, by omega, by omega⟩
     ·exact (.cons rfl (by first | rfl | (refine congrArg (Value.int _) ?_; omega)) .nil)
   rintro ⟨vd2, ds⟩ w26 ⟨hw26, hds0, hds1, hdl1, hdl2⟩
   show RunC P _ _ _ (_ :: _) _
   refine c_cutk (ι := Value × List UInt8 × Int) (fun (z0 : Value × List UInt8 × Int) (w' : World) => match z0 with | ⟨vd3, ds3, x3⟩ => St w w.heap.size None' ([As.iv vd3 (bys ds3), As.blk lb 52 [vt], As.rb 5 vt t]) w' ∧ 1 ≤ ds3.length ∧ ds3.length ≤ 60 ∧ -400 ≤ x3 ∧ x3 ≤ 401 ∧ (b % d.S = 0 → ds3 = zsT (n + 1) ∧ x3 = 0) ∧ (0 < b % d.S → ptT ds3 1 ++ exT x3 = exB (rnE (fN (fX d (b % d.S)) (-(n - x))) (fD (fY d (b % d.S)) (-(n - x)))) n x)) (fun (z0 : Value × List UInt8 × Int) => match z0 with | ⟨vd3, ds3, x3⟩ => [(12, .int .i64 x3), (13, vd3)]) [8] (.cons rfl .nil) ?_ ?_
   ·skip
    refine c_seq (c_region (l_move rfl rfl rfl ?_))
    refine v_lenb rfl rfl Tryd.underlying25 rfl (by first | exact hw26.ii mem0 | exact hw26.ibl mem1 | exact hw26.io mem2 | assumption) ?_
    refine l_move rfl rfl rfl ?_
    refine l_add rfl rfl rfl rfl (w_i64 (by omega)) ?_
    refine l_gtr rfl rfl rfl rfl ?_
    refine l_nil (e_then ?_)
    refine c_keep [2, 8, 12, 13, 60] (.cons rfl (.cons rfl (.cons rfl (.cons rfl (.cons rfl .nil))))) ?_
    first | refine c_cond rfl (fun hc3 => ?_) (fun hc3 => ?_) | refine c_condb rfl (fun hc3 => ?_) (fun hc3 => ?_)
    ·skip
     refine c_seq (c_region (l_move rfl rfl rfl (l_move rfl rfl rfl ?_)))
     refine l_add rfl rfl rfl rfl (w_i64 (by omega)) ?_
     refine l_turn (s := 63) (v' := .int .i64 ((n.toNat + 1 : Nat) : Int)) rfl (congrArg (Value.int .i64) (by omega)) ?_
     refine v_cut (l := 0) (h := n.toNat + 1) rfl rfl Tryd.underlying25 tz5 rfl rfl rfl rfl (by first | exact hw26.ii mem0 | exact hw26.ibl mem1 | exact hw26.io mem2 | assumption) (by first | rfl | (simp; done) | (simp; omega)) (by first | rfl | (simp; done) | (simp; omega)) (.inl rfl) (by simp) (by omega) (by first | omega | (simp; omega) | (simp; done)) (fun v13_3 h13_3 ho13_3 => ?_)
     have hct3 : (List.take (n.toNat + 1) (bys ds)).drop 0 = bys (ds.take (n.toNat + 1)) := by simp [bys, List.map_take]
     have hw27 := St.iv_cut hw26 (by rw [hct3] at h13_3; exact h13_3) ho13_3
     try clear hw26
     refine l_assign rfl rfl rfl (l_nil (e_then ?_))
     refine c_keep [8, 12, 13] (.cons rfl (.cons rfl (.cons rfl .nil))) ?_
     refine c_region (l_move rfl rfl rfl ?_)
     refine l_add rfl rfl rfl rfl (w_i64 (by omega)) ?_
     refine l_assign rfl rfl rfl (l_nil ?_)
     refine e_meetk (v13_3, ds.take (n.toNat + 1), x + 1) ?_ (.cons rfl .nil) ?_
     ·have hzl : (zsT (n + 1)).length = (n + 1).toNat := by unfold zsT; rw [List.length_replicate]
      exact ⟨hw27, by rw [List.length_take]; omega, by rw [List.length_take]; omega, by omega, by omega, fun h => absurd hc3 (by rw [hds0 h]; omega), fun h => by unfold exB; rw [hds1 h] at hc3 ⊢; rw [if_pos (by omega)]⟩
     ·exact (.cons rfl (by first | rfl | (refine congrArg (Value.int _) ?_; omega)) (.cons rfl (by first | rfl | (refine congrArg (Value.int _) ?_; omega)) .nil))
    ·skip
     refine c_skip ?_
     refine e_meetk (vd2, ds, x) ?_ (.cons rfl .nil) ?_
     ·exact ⟨hw26, by omega, by omega, by omega, by omega, fun h => ⟨hds0 h, hx0 h⟩, fun h => by unfold exB; rw [hds1 h] at hc3 ⊢; rw [if_neg (by omega)]⟩
     ·exact (.cons rfl (by first | rfl | (refine congrArg (Value.int _) ?_; omega)) (.cons rfl (by first | rfl | (refine congrArg (Value.int _) ?_; omega)) .nil))
   rintro ⟨vd3, ds3, x3⟩ w28 ⟨hw28, hd31, hd32, hx31, hx32, hz3, hn3⟩
   show RunC P _ _ _ (_ :: _) _
   refine c_seq (c_region ?_)
   have hpt : (ptT ds3 1).length ≤ 70 := by unfold ptT; split <;> simp <;> omega
   refine l_move rfl rfl rfl (l_move rfl rfl rfl ?_)
   have hw29 := St.frontL (l := [_, _]) hw28
   simp only [List.cons_append, List.nil_append] at hw29
   try clear hw28
   have hw30 := St.frontL (l := [_, _]) hw29
   simp only [List.cons_append, List.nil_append] at hw30
   try clear hw29
   refine l_call rfl rfl Tryd.func27 rfl rfl (.cons rfl (.cons rfl (.cons rfl .nil))) (pointP lb vt t (by omega) vd3 ds3 (by omega) 1 (by omega) w28 (St.rows (τ := [As.blk lb 52 [vt], As.rb 5 vt t, As.iv vd3 (bys ds3)]) hw30)) ?_
   rintro _ w31 ⟨v3, rfl, hX⟩
   have hw31 := hX _ _ _ _ hw30
   simp only [List.cons_append, List.nil_append] at hw31
   try clear hX hw30
   refine l_nil (e_then ?_)
   refine c_keep [8, 12] (.cons rfl (.cons rfl .nil)) ?_
   refine c_seq (c_region (l_move rfl rfl rfl (l_move rfl rfl rfl ?_)))
   refine l_call rfl rfl Tryd.func37 rfl rfl (.cons rfl (.cons rfl .nil)) (expP lb v3 (t ++ ptT ds3 1) (by simp only [List.length_append]; omega) x3 (by omega) w31 (St.rows (τ := [As.blk lb 52 [v3], As.rb 5 v3 (t ++ ptT ds3 1)]) hw31) (St.argH (τ := [As.blk lb 52 [v3], As.rb 5 v3 (t ++ ptT ds3 1)]) hw31 hTT)) ?_
   rintro _ w32 ⟨v4, rfl, hX⟩
   have hw32 := hX _ _ _ _ hw31
   simp only [List.cons_append, List.nil_append] at hw32
   try clear hX hw31
   refine l_nil (e_then ?_)
   refine c_keep [8] (.cons rfl .nil) ?_
   refine c_seq (c_region (l_move rfl rfl rfl (l_nilCheck rfl rfl rfl (l_field fo52_0 rfl rfl rfl ?_))))
   refine l_load_blk hw32 mem0 rfl rfl Tryd.underlying25 rfl rfl rfl ?_
   refine l_assign rfl rfl rfl (l_assign rfl rfl rfl (l_nil (e_then ?_)))
   refine c_keep [6, 7] (.cons rfl (.cons rfl .nil)) ?_
   refine c_ret ?_
   refine e_done2 Tryd.results22 rfl rfl ?_
   refine ⟨_, rfl, ?_⟩
   have hw33 := St.front1 hw32
   try clear hw32
   have hw34 := St.del (.tail (.tail .head)) hw33
   try clear hw33
   have hw35 := St.del (.tail .head) hw34
   try clear hw34
   refine ⟨_, 0, _, rfl, ⟨he0 ▸ hA.1, fun h => absurd rfl h, fun _ => ⟨d, ptT ds3 1 ++ exT x3, hk, hltS, by rw [wdT_fin hfin, htS, List.append_assoc], fun h => by rw [(hz3 h).1, (hz3 h).2], fun h1 h2 => ⟨x, hxt h1, hn3 h1⟩⟩⟩, hw35.grows⟩
end Go.Proofs.YtojjlipcjdaejaaDoor.W
