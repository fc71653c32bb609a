/- walks of the reference's Sum, Prod, Small, Bits -/
import Derived.Test.YtggdkplphfofkaaGreatRa
import Derived.Test.YtggdkplphfofkaaGreatFa
set_option linter.unusedVariables false
set_option linter.unusedSimpArgs false
set_option maxRecDepth 10000
namespace Go.Proofs.YtggdkplphfofkaaGreat.W
open Go.Vc Go.RowKit
theorem sumR (a b : Value) (la lb : List Int) (na nb : Int) (hRa : R16 la na) (hRb : R16 lb nb) (hLa : la.length ≤ 1099511627776) (hLb : lb.length ≤ 1099511627776) (w : World) (ha : IV w a (ints .i64 la)) (hb : IV w b (ints .i64 lb)) :
  CallsV P 44 [a, b] w fun r w' => ∃ v ls, r = v ∧ R16 ls (na + nb) ∧ Grow w w' [As.ri 3 .i64 v ls] := by
 refine enterW Tryz.func44 rfl Tryz.ntmps44 rfl ?_
 have hw0 := St.start w
 have hDa := hRa.d
 have hDb := hRb.d
 refine c_seq (c_region (l_assign rfl rfl rfl (l_nil (e_then ?_))))
 refine c_keep [0, 1] (.cons rfl (.cons rfl .nil)) ?_
 refine c_seq (c_region (l_assign rfl rfl rfl (l_nil (e_then (c_seq ?_)))))
 refine c_region (l_assign rfl rfl rfl (l_nil (e_then (c_seq (c_seq ?_)))))
 refine c_region (l_assign rfl rfl rfl (l_nil (e_then (c_block ?_))))
 refine c_loopk (ι := Nat × List Int × Int × Value) (fun (z0 : Nat × List Int × Int × Value) => match z0 with | ⟨k, o, c, vo⟩ => max la.length lb.length + 1 - k) (fun (z0 : Nat × List Int × Int × Value) (w' : World) => match z0 with | ⟨k, o, c, vo⟩ => St w w.heap.size None' ([As.ri 3 .i64 vo o]) w' ∧ k ≤ max la.length lb.length + 1 ∧ o.length = k ∧ D16 o ∧ 0 ≤ c ∧ c ≤ 1 ∧ (k = max la.length lb.length + 1 → c = 0 ∧ 65536 ^ (max la.length lb.length) ≤ rv o) ∧ rv o + 65536 ^ k * c = rv (la.take k) + rv (lb.take k)) (fun (z0 : Nat × List Int × Int × Value) => match z0 with | ⟨k, o, c, vo⟩ => [(5, vo), (6, .int .i64 c), (7, .int .i64 (k : Int))]) [0, 1] (0, [], 0, .slice none 0 0) ?_ (.cons rfl (.cons rfl .nil)) ?_ ?_
 ·exact ⟨hw0.nil 3, by omega, rfl, D16.nil, by omega, by omega, (fun h => by omega), by simp [Ma.vb]⟩
 ·exact (.cons rfl (by first | rfl | (refine congrArg (Value.int _) ?_; omega)) (.cons rfl (by first | rfl | (refine congrArg (Value.int _) ?_; omega)) (.cons rfl (by first | rfl | (refine congrArg (Value.int _) ?_; omega)) .nil)))
 rintro ⟨k, o, c, vo⟩ w1 ⟨hw1, hk, hol, hDo, hc1, hc2, hlast, hval⟩
 show RunC P _ _ _ (_ :: _) _
 refine c_seq (c_seq (c_region (l_move rfl rfl rfl (l_move rfl rfl rfl ?_))))
 refine v_leni rfl rfl Tryz.underlying32 rfl (by first | exact hw1.io mem0 | exact hw1.iarg ha | exact hw1.iarg hb | assumption) ?_
 refine l_lss rfl rfl rfl rfl ?_
 refine l_move rfl rfl rfl ?_
 apply l_or 4 [0, 1, 5, 6, 7] rfl rfl (.cons rfl (.cons rfl (.cons rfl (.cons rfl (.cons rfl (.cons rfl .nil)))))) rfl rfl (fun _ => rfl) rfl rfl rfl
 ·intro hg4_5
  refine l_move rfl rfl rfl (l_move rfl rfl rfl ?_)
  refine v_leni rfl rfl Tryz.underlying32 rfl (by first | exact hw1.io mem0 | exact hw1.iarg ha | exact hw1.iarg hb | assumption) ?_
  refine l_lss rfl rfl rfl rfl ?_
  refine l_nil ?_
  exact e_stays rfl (.cons rfl (congrArg Value.bool (decide_eq_false hg4_5).symm) (.cons rfl rfl (.cons rfl rfl (.cons rfl rfl (.cons rfl rfl (.cons rfl rfl .nil))))))
 refine l_move rfl rfl rfl ?_
 apply l_or 2 [0, 1, 5, 6, 7] rfl rfl (.cons rfl (.cons rfl (.cons rfl (.cons rfl (.cons rfl (.cons rfl .nil)))))) rfl rfl (fun _ => rfl) rfl rfl rfl
 ·intro hg4_11
  refine l_move rfl rfl rfl ?_
  refine l_gtr rfl rfl rfl rfl ?_
  refine l_nil ?_
  exact e_stays rfl (.cons rfl (congrArg Value.bool (decide_eq_false hg4_11).symm) (.cons rfl rfl (.cons rfl rfl (.cons rfl rfl (.cons rfl rfl (.cons rfl rfl .nil))))))
 refine l_nil (e_then ?_)
 refine c_keep [0, 1, 5, 6, 7, 21] (.cons rfl (.cons rfl (.cons rfl (.cons rfl (.cons rfl (.cons rfl .nil)))))) ?_
 first | refine c_cond rfl (fun hc0 => ?_) (fun hc0 => ?_) | refine c_condb rfl (fun hc0 => ?_) (fun hc0 => ?_)
 ·skip
  refine c_skip (e_then ?_)
  refine c_keep [0, 1, 5, 6, 7] (.cons rfl (.cons rfl (.cons rfl (.cons rfl (.cons rfl .nil))))) ?_
  refine c_seq (c_block ?_)
  refine c_cutk (ι := Int) (fun (c1 : Int) (w' : World) => St w w.heap.size None' ([As.ri 3 .i64 vo o]) w' ∧ c1 = c + la.getD k 0) (fun (c1 : Int) => [(6, .int .i64 c1)]) [0, 1, 5, 7] (.cons rfl (.cons rfl (.cons rfl (.cons rfl .nil)))) ?_ ?_
  ·skip
   refine c_seq (c_region (l_move rfl rfl rfl (l_move rfl rfl rfl ?_)))
   refine v_leni rfl rfl Tryz.underlying32 rfl (by first | exact hw1.io mem0 | exact hw1.iarg ha | exact hw1.iarg hb | assumption) ?_
   refine l_lss rfl rfl rfl rfl ?_
   refine l_nil (e_then ?_)
   refine c_keep [0, 1, 5, 6, 7, 27] (.cons rfl (.cons rfl (.cons rfl (.cons rfl (.cons rfl (.cons rfl .nil)))))) ?_
   first | refine c_cond rfl (fun hc1 => ?_) (fun hc1 => ?_) | refine c_condb rfl (fun hc1 => ?_) (fun hc1 => ?_)
   ·skip
    refine c_region (l_move rfl rfl rfl (l_move rfl rfl rfl (l_move rfl rfl rfl ?_)))
    refine v_getr rfl rfl rfl rfl Tryz.underlying32 tz3 Tryz.underlying3 rfl rfl (by first | exact hw1.io mem0 | exact hw1.iarg ha | exact hw1.iarg hb | assumption) (by assumption) rfl rfl (by first | omega | (simp; done) | (simp; omega)) (fun hb7_3 => ?_)
    refine l_add rfl rfl rfl rfl (w_i64 (by omega)) ?_
    refine l_assign rfl rfl rfl (l_nil ?_)
    refine e_meetk (c + la.getD k 0) ?_ (.cons rfl (.cons rfl (.cons rfl (.cons rfl .nil)))) ?_
    ·exact ⟨hw1, rfl⟩
    ·exact (.cons rfl (by first | rfl | (refine congrArg (Value.int _) ?_; omega)) .nil)
   ·skip
    refine c_skip ?_
    refine e_meetk (c) ?_ (.cons rfl (.cons rfl (.cons rfl (.cons rfl .nil)))) ?_
    ·exact ⟨hw1, by rw [getD_out (by omega)]; omega⟩
    ·exact (.cons rfl (by first | rfl | (refine congrArg (Value.int _) ?_; omega)) .nil)
  rintro c1 w2 ⟨hw2, hc1v⟩
  show RunC P _ _ _ (_ :: _) _
  refine c_cutk (ι := Int) (fun (c2 : Int) (w' : World) => St w w.heap.size None' ([As.ri 3 .i64 vo o]) w' ∧ c2 = c + la.getD k 0 + lb.getD k 0) (fun (c2 : Int) => [(6, .int .i64 c2)]) [0, 1, 5, 7] (.cons rfl (.cons rfl (.cons rfl (.cons rfl .nil)))) ?_ ?_
  ·skip
   refine c_seq (c_region ?_)
   have ga := getD_d hDa k
   refine l_move rfl rfl rfl (l_move rfl rfl rfl ?_)
   refine v_leni rfl rfl Tryz.underlying32 rfl (by first | exact hw2.io mem0 | exact hw2.iarg ha | exact hw2.iarg hb | assumption) ?_
   refine l_lss rfl rfl rfl rfl ?_
   refine l_nil (e_then ?_)
   refine c_keep [0, 1, 5, 6, 7, 37] (.cons rfl (.cons rfl (.cons rfl (.cons rfl (.cons rfl (.cons rfl .nil)))))) ?_
   first | refine c_cond rfl (fun hc2 => ?_) (fun hc2 => ?_) | refine c_condb rfl (fun hc2 => ?_) (fun hc2 => ?_)
   ·skip
    refine c_region ?_
    have gb := getD_d hDb k
    refine l_move rfl rfl rfl (l_move rfl rfl rfl (l_move rfl rfl rfl ?_))
    refine v_getr rfl rfl rfl rfl Tryz.underlying32 tz3 Tryz.underlying3 rfl rfl (by first | exact hw2.io mem0 | exact hw2.iarg ha | exact hw2.iarg hb | assumption) (by assumption) rfl rfl (by first | omega | (simp; done) | (simp; omega)) (fun hb9_3 => ?_)
    refine l_add rfl rfl rfl rfl (w_i64 (by omega)) ?_
    refine l_assign rfl rfl rfl (l_nil ?_)
    refine e_meetk (c1 + lb.getD k 0) ?_ (.cons rfl (.cons rfl (.cons rfl (.cons rfl .nil)))) ?_
    ·exact ⟨hw2, by omega⟩
    ·exact (.cons rfl (by first | rfl | (refine congrArg (Value.int _) ?_; omega)) .nil)
   ·skip
    refine c_skip ?_
    refine e_meetk (c1) ?_ (.cons rfl (.cons rfl (.cons rfl (.cons rfl .nil)))) ?_
    ·exact ⟨hw2, by rw [getD_out (l := lb) (by omega)]; omega⟩
    ·exact (.cons rfl (by first | rfl | (refine congrArg (Value.int _) ?_; omega)) .nil)
  rintro c2 w3 ⟨hw3, hc2v⟩
  show RunC P _ _ _ (_ :: _) _
  refine c_seq (c_region ?_)
  have ga := getD_d hDa k
  have gb := getD_d hDb k
  refine l_move rfl rfl rfl (l_move rfl rfl rfl ?_)
  refine l_rem rfl rfl rfl rfl (by omega) (r_pos (by omega)) ?_
  refine v_lit hw3 rfl rfl Tryz.underlying32 ti3 rfl (.cons rfl (by first | rfl | assumption) .nil) rfl rfl rfl (fun b10_3 w4 hw4 => ?_)
  try clear hw3
  refine v_push hw4 rfl rfl Tryz.underlying32 ti3 rfl rfl rfl rfl (by first | (simp [Value.oneCell']; done) | (intro u hu; rw [List.mem_singleton.1 hu]; assumption)) (by first | (simp; done) | (simp; omega)) (by first | (simp; done) | (simp; omega)) (fun v10_4 w5 hw5 => ?_)
  try clear hw4
  refine l_assign rfl rfl rfl (l_nil (e_then ?_))
  refine c_keep [0, 1, 5, 6, 7] (.cons rfl (.cons rfl (.cons rfl (.cons rfl (.cons rfl .nil))))) ?_
  refine c_region (l_move rfl rfl rfl ?_)
  refine l_quo rfl rfl rfl rfl (by omega) (q_i64 (by omega)) ?_
  refine l_assign rfl rfl rfl (l_nil ?_)
  refine e_blk ?_
  refine e_then ?_
  refine c_keep [0, 1, 5, 6, 7] (.cons rfl (.cons rfl (.cons rfl (.cons rfl (.cons rfl .nil))))) ?_
  refine c_region (l_move rfl rfl rfl ?_)
  refine l_add rfl rfl rfl rfl (w_i64 (by omega)) ?_
  refine l_assign rfl rfl rfl (l_nil ?_)
  refine e_againk (i := (k, o, c, vo)) (k + 1, o ++ [c2 % 65536], c2 / 65536, v10_4) ?_ ?_ (.cons rfl (.cons rfl .nil)) ?_
  ·first | omega | (simp; omega)
  ·have ga := getD_d hDa k
   have gb := getD_d hDb k
   refine ⟨hw5.cast (by rw [ints_snoc]), by omega, by simp; omega, hDo.snoc (by omega), by omega, by omega, fun h => ?_, ?_⟩
   ·have z1 : la.getD k 0 = 0 := by simp [List.getD, show la.length ≤ k by omega]
    have z2 : lb.getD k 0 = 0 := by simp [List.getD, show lb.length ≤ k by omega]
    have hcc : c = 1 := by omega
    rw [rv_snoc, hol, show max la.length lb.length = k from by omega, show c2 % 65536 = 1 from by omega]
    have := hDo.rv_nonneg
    exact ⟨by omega, by omega⟩
   ·rw [rv_snoc, hol, Int.pow_succ]
    have h2 := Ma.vb_take_succ 65536 la k
    have h3 := Ma.vb_take_succ 65536 lb k
    show _ = Ma.vb _ _ + Ma.vb _ _
    rw [h2, h3, hc2v, show c + la.getD k 0 + lb.getD k 0 = la.getD k 0 + lb.getD k 0 + c from by omega]
    exact sum_step (by omega) hval
  ·exact (.cons rfl (by first | rfl | (refine congrArg (Value.int _) ?_; omega)) (.cons rfl (by first | rfl | (refine congrArg (Value.int _) ?_; omega)) (.cons rfl (by first | rfl | (refine congrArg (Value.int _) ?_; omega)) .nil)))
 ·skip
  refine c_exit ?_
  refine e_then_exit ?_
  refine e_then_exit ?_
  refine e_blk_exit ?_
  refine e_then ?_
  refine c_keep [5] (.cons rfl .nil) ?_
  refine c_seq (c_region (l_move rfl rfl rfl (l_assign rfl rfl rfl (l_nil (e_then ?_)))))
  refine c_keep [4] (.cons rfl .nil) ?_
  refine c_ret ?_
  refine e_done1 Tryz.results44 rfl ?_
  refine ⟨_, rfl, ?_⟩
  refine ⟨_, _, rfl, ⟨hDo.dg, Ma.Tr.of_ge (show (1 : Int) < 65536 by omega) hDo.dg fun hne => ?_, ?_⟩, hw1.grows⟩
  ·rcases Nat.lt_or_ge (max la.length lb.length) k with h | h
   ·rw [hol, show k - 1 = max la.length lb.length from by omega]
    exact (hlast (by omega)).2
   ·have hc0' : c = 0 := by omega
    have hm : k = max la.length lb.length := by omega
    have hk0 : 0 < k := by rw [← hol]; exact List.length_pos_iff.2 hne
    rw [hc0', Int.mul_zero, Int.add_zero, List.take_of_length_le (show la.length ≤ k by omega), List.take_of_length_le (show lb.length ≤ k by omega)] at hval
    show _ ≤ rv o
    rw [hval, hol]
    have pa := hDa.rv_nonneg
    have pb := hDb.rv_nonneg
    rcases Nat.lt_or_ge la.length k with hla | hla
    ·have : (65536 : Int) ^ (lb.length - 1) ≤ rv lb := Ma.Tr.pos (show (0 : Int) < 65536 by omega) hRb.dg hRb.tr (by intro e; subst e; simp at hm; omega)
     rw [show lb.length = k from by omega] at this
     omega
    ·have : (65536 : Int) ^ (la.length - 1) ≤ rv la := Ma.Tr.pos (show (0 : Int) < 65536 by omega) hRa.dg hRa.tr (by intro e; subst e; simp at hla; omega)
     rw [show la.length = k from by omega] at this
     omega
  ·have hc0' : c = 0 := by omega
   rw [hc0', Int.mul_zero, Int.add_zero, List.take_of_length_le (show la.length ≤ k by omega), List.take_of_length_le (show lb.length ≤ k by omega)] at hval
   rw [show Ma.vb 65536 o = rv o from rfl, hval]
   show Ma.vb 65536 la + Ma.vb 65536 lb = _
   rw [hRa.val, hRb.val]
theorem bitsR (v : Value) (l : List Int) (n : Int) (hR : R16 l n) (hL : l.length ≤ 17592186044416) (w : World) (hv : IV w v (ints .i64 l)) :
  CallsV P 39 [v] w fun r w' => r = .int .i64 (Ma.blen n) ∧ w = w' := by
 refine enterW Tryz.func39 rfl Tryz.ntmps39 rfl ?_
 have hD := hR.d
 refine c_seq (c_region (l_assign rfl rfl rfl (l_nil (e_then ?_))))
 refine c_keep [0] (.cons rfl .nil) ?_
 refine c_seq (c_seq (c_region (l_move rfl rfl rfl ?_)))
 refine v_leni rfl rfl Tryz.underlying32 rfl (by first | exact hv | assumption) ?_
 refine l_eql rfl rfl rfl rfl ?_
 refine l_nil (e_then ?_)
 refine c_keep [0, 7] (.cons rfl (.cons rfl .nil)) ?_
 first | refine c_cond rfl (fun hc0 => ?_) (fun hc0 => ?_) | refine c_condb rfl (fun hc0 => ?_) (fun hc0 => ?_)
 ·skip
  refine c_seq (c_region (l_assign rfl rfl rfl (l_nil (e_then ?_))))
  refine c_keep [2] (.cons rfl .nil) ?_
  refine c_ret ?_
  refine e_then_ret ?_
  refine e_done1 Tryz.results39 rfl ?_
  refine ⟨_, rfl, ?_⟩
  obtain rfl : l = [] := List.eq_nil_of_length_eq_zero (by omega)
  rw [← hR.val]
  exact ⟨rfl, rfl⟩
 ·skip
  refine c_skip (e_then ?_)
  refine c_keep [0] (.cons rfl .nil) ?_
  refine c_seq (c_region (l_move rfl rfl rfl ?_))
  refine v_leni rfl rfl Tryz.underlying32 rfl (by first | exact hv | assumption) ?_
  refine l_sub rfl rfl rfl rfl (w_i64 (by omega)) ?_
  refine l_mul rfl rfl rfl rfl (w_i64 (by omega)) ?_
  refine l_assign rfl rfl rfl (l_nil (e_then ?_))
  refine c_keep [0, 3] (.cons rfl (.cons rfl .nil)) ?_
  refine c_seq (c_seq (c_region (l_move rfl rfl rfl (l_move rfl rfl rfl ?_))))
  refine v_leni rfl rfl Tryz.underlying32 rfl (by first | exact hv | assumption) ?_
  refine l_sub rfl rfl rfl rfl (w_i64 (by omega)) ?_
  refine v_getr (j := l.length - 1) rfl rfl rfl rfl Tryz.underlying32 tz3 Tryz.underlying3 rfl rfl (by first | exact hv | assumption) (by assumption) rfl (by omega) (by first | omega | (simp; done) | (simp; omega)) (fun hb4_4 => ?_)
  refine l_assign rfl rfl rfl (l_nil (e_then ?_))
  refine c_keep [3, 4] (.cons rfl (.cons rfl .nil)) ?_
  refine c_block ?_
  refine c_loopk (ι := Int × Int) (fun (z0 : Int × Int) => match z0 with | ⟨x, c⟩ => x.toNat) (fun (z0 : Int × Int) (w' : World) => match z0 with | ⟨x, c⟩ => w = w' ∧ 0 ≤ x ∧ x ≤ 65535 ∧ 0 ≤ c ∧ Ma.blen n = c + Ma.blen x ∧ c + Ma.blen x ≤ 281474976710656) (fun (z0 : Int × Int) => match z0 with | ⟨x, c⟩ => [(3, .int .i64 c), (4, .int .i64 x)]) [] (l.getD (l.length - 1) 0, 16 * ((l.length : Int) - 1)) ?_ .nil ?_ ?_
  ·have hb := Ma.blen_top (s := 16) hR.dg hR.tr (by omega)
   rw [show ((2 : Int) ^ 16) = 65536 from rfl, hR.val] at hb
   have h16 : Ma.blen (l.getD (l.length - 1) 0) ≤ 16 := (Ma.blen_le_iff hb4_4.1 16).2 (by omega)
   exact ⟨rfl, hb4_4.1, hb4_4.2, by omega, hb, by omega⟩
  ·exact (.cons rfl (by first | rfl | (refine congrArg (Value.int _) ?_; omega)) (.cons rfl (by first | rfl | (refine congrArg (Value.int _) ?_; omega)) .nil))
  rintro ⟨x, c⟩ _ ⟨rfl, hx0, hx1, hcc, hbl, hlim⟩
  show RunC P _ _ _ (_ :: _) _
  have hxx := Ma.blen_nonneg x
  refine c_seq (c_seq (c_region (l_move rfl rfl rfl ?_)))
  refine l_gtr rfl rfl rfl rfl ?_
  refine l_nil (e_then ?_)
  refine c_keep [3, 4, 19] (.cons rfl (.cons rfl (.cons rfl .nil))) ?_
  first | refine c_cond rfl (fun hc1 => ?_) (fun hc1 => ?_) | refine c_condb rfl (fun hc1 => ?_) (fun hc1 => ?_)
  ·skip
   refine c_skip (e_then ?_)
   refine c_keep [3, 4] (.cons rfl (.cons rfl .nil)) ?_
   refine c_seq (c_block (c_region (l_move rfl rfl rfl ?_)))
   refine l_add rfl rfl rfl rfl (w_i64 (by omega)) ?_
   refine l_assign rfl rfl rfl (l_nil ?_)
   refine e_blk ?_
   refine e_then ?_
   refine c_keep [3, 4] (.cons rfl (.cons rfl .nil)) ?_
   refine c_region (l_move rfl rfl rfl ?_)
   refine l_quo rfl rfl rfl rfl (by omega) (q_i64 (by omega)) ?_
   refine l_assign rfl rfl rfl (l_nil ?_)
   refine e_againk (i := (x, c)) (x / 2, c + 1) ?_ ?_ .nil ?_
   ·first | omega | (simp; omega)
   ·have hh := Ma.blen_half (n := x) (by omega)
    refine ⟨rfl, by omega, by omega, by omega, by omega, by omega⟩
   ·exact (.cons rfl (by first | rfl | (refine congrArg (Value.int _) ?_; omega)) (.cons rfl (by first | rfl | (refine congrArg (Value.int _) ?_; omega)) .nil))
  ·skip
   refine c_exit ?_
   refine e_then_exit ?_
   refine e_then_exit ?_
   refine e_blk_exit ?_
   refine e_then ?_
   refine c_keep [3] (.cons rfl .nil) ?_
   refine c_seq (c_region (l_move rfl rfl rfl (l_assign rfl rfl rfl (l_nil (e_then ?_)))))
   refine c_keep [2] (.cons rfl .nil) ?_
   refine c_ret ?_
   refine e_done1 Tryz.results39 rfl ?_
   refine ⟨_, rfl, ?_⟩
   have hx : x = 0 := by omega
   subst hx
   rw [Ma.blen_zero] at hbl
   exact ⟨by rw [hbl]; simp, rfl⟩
theorem smallR (v : Value) (l : List Int) (n d : Int) (hR : R16 l n) (hd : 1 ≤ d ∧ d ≤ 65535) (hL : l.length ≤ 1099511627776) (w : World) (hv : IV w v (ints .i64 l)) :
  CallsV P 55 [v, .int .i64 d] w fun r w' => ∃ v ls, r = .tuple #[v, .int .i64 (n % d)] ∧ R16 ls (n / d) ∧ Grow w w' [As.ri 3 .i64 v ls] := by
 refine enterW Tryz.func55 rfl Tryz.ntmps55 rfl ?_
 have hw0 := St.start w
 have hD := hR.d
 refine c_seq (c_region (l_assign rfl rfl rfl (l_assign rfl rfl rfl (l_nil (e_then ?_)))))
 refine c_keep [0, 1] (.cons rfl (.cons rfl .nil)) ?_
 refine c_seq (c_region (l_move rfl rfl rfl ?_))
 refine v_leni rfl rfl Tryz.underlying32 rfl (by first | exact hw0.iarg hv | assumption) ?_
 refine v_make (m := l.length) (c := l.length) hw0 rfl rfl Tryz.underlying32 ti3 rfl rfl rfl (by omega) (by omega) (by omega) (by omega) (by omega) (fun v1_2 w1 hw1 => ?_)
 try clear hw0
 refine l_assign rfl rfl rfl (l_nil (e_then ?_))
 refine c_keep [0, 1, 6] (.cons rfl (.cons rfl (.cons rfl .nil))) ?_
 refine c_seq (c_region (l_assign rfl rfl rfl (l_nil (e_then (c_seq ?_)))))
 refine c_seq (c_region (l_move rfl rfl rfl ?_))
 refine v_leni rfl rfl Tryz.underlying32 rfl (by first | exact hw1.io mem0 | exact hw1.iarg hv | assumption) ?_
 refine l_sub rfl rfl rfl rfl (w_i64 (by omega)) ?_
 refine l_assign rfl rfl rfl (l_nil (e_then ?_))
 refine c_keep [0, 1, 6, 7, 8] (.cons rfl (.cons rfl (.cons rfl (.cons rfl (.cons rfl .nil))))) ?_
 refine c_block ?_
 refine c_loopk (ι := Nat × List Int × Int) (fun (z0 : Nat × List Int × Int) => match z0 with | ⟨k, o, q⟩ => k) (fun (z0 : Nat × List Int × Int) (w' : World) => match z0 with | ⟨k, o, q⟩ => St w w.heap.size None' ([As.ri 3 .i64 v1_2 o]) w' ∧ k ≤ l.length ∧ o.length = l.length ∧ D16 o ∧ 0 ≤ q ∧ q < d ∧ rv (o.drop k) * d + q = rv (l.drop k)) (fun (z0 : Nat × List Int × Int) => match z0 with | ⟨k, o, q⟩ => [(7, .int .i64 q), (8, .int .i64 ((k : Int) - 1))]) [0, 1, 6] (l.length, List.replicate l.length 0, 0) ?_ (.cons rfl (.cons rfl (.cons rfl .nil))) ?_ ?_
 ·refine ⟨?_, by omega, by simp, (fun y hy => by rw [List.eq_of_mem_replicate hy]; omega), by omega, by omega, by rw [List.drop_eq_nil_of_le (by simp), List.drop_eq_nil_of_le (Nat.le_refl _)]; simp [Ma.vb]⟩
  exact hw1.cast (by rw [ints_replicate])
 ·exact (.cons rfl (by first | rfl | (refine congrArg (Value.int _) ?_; omega)) (.cons rfl (by first | rfl | (refine congrArg (Value.int _) ?_; omega)) .nil))
 rintro ⟨k, o, q⟩ w2 ⟨hw2, hk, hol, hDo, hq0, hq1, hval⟩
 show RunC P _ _ _ (_ :: _) _
 refine c_seq (c_seq (c_region (l_move rfl rfl rfl ?_)))
 refine l_geq rfl rfl rfl rfl ?_
 refine l_nil (e_then ?_)
 refine c_keep [0, 1, 6, 7, 8, 16] (.cons rfl (.cons rfl (.cons rfl (.cons rfl (.cons rfl (.cons rfl .nil)))))) ?_
 first | refine c_cond rfl (fun hc0 => ?_) (fun hc0 => ?_) | refine c_condb rfl (fun hc0 => ?_) (fun hc0 => ?_)
 ·skip
  refine c_skip (e_then ?_)
  refine c_keep [0, 1, 6, 7, 8] (.cons rfl (.cons rfl (.cons rfl (.cons rfl (.cons rfl .nil))))) ?_
  refine c_seq (c_block (c_seq (c_region (l_move rfl rfl rfl ?_))))
  refine l_mul rfl rfl rfl rfl (w_i64 (by omega)) ?_
  refine l_move rfl rfl rfl (l_move rfl rfl rfl ?_)
  refine v_getr (j := k - 1) rfl rfl rfl rfl Tryz.underlying32 tz3 Tryz.underlying3 rfl rfl (by first | exact hw2.io mem0 | exact hw2.iarg hv | assumption) (by assumption) rfl (by omega) (by first | omega | (simp; done) | (simp; omega)) (fun hb6_4 => ?_)
  refine l_add rfl rfl rfl rfl (w_i64 (by omega)) ?_
  refine l_assign rfl rfl rfl (l_nil (e_then ?_))
  refine c_keep [0, 1, 6, 7, 8] (.cons rfl (.cons rfl (.cons rfl (.cons rfl (.cons rfl .nil))))) ?_
  refine c_seq (c_region (l_move rfl rfl rfl (l_move rfl rfl rfl (l_move rfl rfl rfl (l_move rfl rfl rfl ?_)))))
  refine l_quo rfl rfl rfl rfl (by omega) (q_i64 (by omega)) ?_
  refine v_addrn (j := k - 1) rfl rfl Tryz.underlying32 tz3 rfl rfl (by first | exact hw2.io mem0 | exact hw2.iarg hv | assumption) (by omega) (by first | omega | (simp; done) | (simp; omega)) (fun A7_5 c7_5 hA7_5 => ?_)
  refine v_storei hw2 .head hA7_5 rfl tz3 rfl rfl (by first | omega | (simp; done) | (simp; omega)) (fun w3 hw3 => ?_)
  try clear hw2
  refine l_nil (e_then ?_)
  refine c_keep [0, 1, 6, 7, 8] (.cons rfl (.cons rfl (.cons rfl (.cons rfl (.cons rfl .nil))))) ?_
  refine c_region (l_move rfl rfl rfl (l_move rfl rfl rfl ?_))
  refine l_rem rfl rfl rfl rfl (by omega) (r_pos (by omega)) ?_
  refine l_assign rfl rfl rfl (l_nil ?_)
  refine e_blk ?_
  refine e_then ?_
  refine c_keep [0, 1, 6, 7, 8] (.cons rfl (.cons rfl (.cons rfl (.cons rfl (.cons rfl .nil))))) ?_
  refine c_region (l_move rfl rfl rfl ?_)
  refine l_sub rfl rfl rfl rfl (w_i64 (by omega)) ?_
  refine l_assign rfl rfl rfl (l_nil ?_)
  refine e_againk (i := (k, o, q)) (k - 1, o.set (k - 1) ((q * 65536 + l.getD (k - 1) 0) / d), (q * 65536 + l.getD (k - 1) 0) % d) ?_ ?_ (.cons rfl (.cons rfl (.cons rfl .nil))) ?_
  ·first | omega | (simp; omega)
  ·have g1 : 0 ≤ (q * 65536 + l.getD (k - 1) 0) / d := Int.ediv_nonneg (by omega) (by omega)
   have g2 : (q * 65536 + l.getD (k - 1) 0) / d < 65536 := Int.ediv_lt_of_lt_mul (by omega) (by omega)
   have g3 := Int.emod_nonneg (q * 65536 + l.getD (k - 1) 0) (show d ≠ 0 by omega)
   have g4 := Int.emod_lt_of_pos (q * 65536 + l.getD (k - 1) 0) (show 0 < d by omega)
   refine ⟨hw3, by omega, by simpa using hol, fun y hy => (List.mem_or_eq_of_mem_set hy).elim (hDo y) (fun e => by rw [e]; omega), g3, g4, ?_⟩
   have h1 := Ma.vb_drop 65536 (l := l) (k := k - 1) (by omega)
   have h2 := Ma.vb_drop 65536 (l := o.set (k - 1) ((q * 65536 + l.getD (k - 1) 0) / d)) (k := k - 1) (by simp; omega)
   rw [show k - 1 + 1 = k from by omega] at h1 h2
   have hds : (o.set (k - 1) ((q * 65536 + l.getD (k - 1) 0) / d)).drop k = o.drop k := List.drop_set_of_lt (by omega)
   rw [hds] at h2
   have h3 : (o.set (k - 1) ((q * 65536 + l.getD (k - 1) 0) / d)).getD (k - 1) 0 = (q * 65536 + l.getD (k - 1) 0) / d := by simp [List.getD, show k - 1 < o.length by omega]
   rw [h3] at h2
   show Ma.vb _ _ * d + _ = Ma.vb _ _
   rw [h1, h2]
   exact Ma.quo_step (by omega) (by omega) hval
  ·exact (.cons rfl (by first | rfl | (refine congrArg (Value.int _) ?_; omega)) (.cons rfl (by first | rfl | (refine congrArg (Value.int _) ?_; omega)) .nil))
 ·skip
  refine c_exit ?_
  refine e_then_exit ?_
  refine e_then_exit ?_
  refine e_blk_exit ?_
  refine e_then ?_
  refine c_keep [6, 7] (.cons rfl (.cons rfl .nil)) ?_
  refine c_seq (c_region ?_)
  have hk0 : k = 0 := by omega
  subst hk0
  simp only [List.drop_zero] at hval
  refine l_move rfl rfl rfl ?_
  refine l_call rfl rfl Tryz.func58 rfl rfl (.cons rfl .nil) (trimR_turn hDo (by omega) (hw2.io mem0)) ?_
  rintro _ w4 ⟨v', rfl, hT, _⟩
  have hw4 := hT _ _ _ _ _ .head hw2
  try clear hT hw2
  refine l_move rfl rfl rfl (l_assign rfl rfl rfl (l_assign rfl rfl rfl (l_nil (e_then ?_))))
  refine c_keep [4, 5] (.cons rfl (.cons rfl .nil)) ?_
  refine c_ret ?_
  refine e_done2 Tryz.results55 rfl rfl ?_
  refine ⟨_, rfl, ?_⟩
  have hn : rv o * d + q = n := hval.trans hR.val
  have e1 : n / d = rv o := by rw [← hn, Int.add_comm, Int.add_mul_ediv_right _ _ (by omega), Int.ediv_eq_zero_of_lt hq0 hq1, Int.zero_add]
  have e2 : n % d = q := by rw [← hn, Int.add_comm, Int.add_mul_emod_self_right, Int.emod_eq_of_lt hq0 hq1]
  refine ⟨_, _, by rw [e2], ?_, hw4.grows⟩
  rw [e1]
  exact Ma.Cn.of_tr hDo.dg rfl
theorem prodR (a b : Value) (la lb : List Int) (na nb : Int) (hRa : R16 la na) (hRb : R16 lb nb) (hLa : la.length ≤ 1099511627776) (hLb : lb.length ≤ 1099511627776) (w : World) (ha : IV w a (ints .i64 la)) (hb : IV w b (ints .i64 lb)) :
  CallsV P 52 [a, b] w fun r w' => ∃ v ls, r = v ∧ R16 ls (na * nb) ∧ Grow w w' [As.ri 3 .i64 v ls] := by
 refine enterW Tryz.func52 rfl Tryz.ntmps52 rfl ?_
 have hw0 := St.start w
 have hDa := hRa.d
 have hDb := hRb.d
 refine c_seq (c_region (l_assign rfl rfl rfl (l_nil (e_then ?_))))
 refine c_keep [0, 1] (.cons rfl (.cons rfl .nil)) ?_
 refine c_seq (c_region (l_move rfl rfl rfl ?_))
 refine v_leni rfl rfl Tryz.underlying32 rfl (by first | exact hw0.iarg ha | exact hw0.iarg hb | assumption) ?_
 refine l_move rfl rfl rfl ?_
 refine v_leni rfl rfl Tryz.underlying32 rfl (by first | exact hw0.iarg ha | exact hw0.iarg hb | assumption) ?_
 refine l_add rfl rfl rfl rfl (w_i64 (by omega)) ?_
 refine v_make (m := la.length + lb.length) (c := la.length + lb.length) hw0 rfl rfl Tryz.underlying32 ti3 rfl rfl rfl (by omega) (by omega) (by omega) (by omega) (by omega) (fun v1_5 w1 hw1 => ?_)
 try clear hw0
 refine l_assign rfl rfl rfl (l_nil (e_then ?_))
 refine c_keep [0, 1, 5] (.cons rfl (.cons rfl (.cons rfl .nil))) ?_
 refine c_seq (c_seq (c_region (l_assign rfl rfl rfl (l_nil (e_then ?_)))))
 refine c_block ?_
 refine c_loopk (ι := Nat × List Int) (fun (z0 : Nat × List Int) => match z0 with | ⟨ii, o⟩ => la.length - ii) (fun (z0 : Nat × List Int) (w' : World) => match z0 with | ⟨ii, o⟩ => St w w.heap.size None' ([As.ri 3 .i64 v1_5 o]) w' ∧ ii ≤ la.length ∧ o.length = la.length + lb.length ∧ D16 o ∧ rv o = rv (la.take ii) * rv lb) (fun (z0 : Nat × List Int) => match z0 with | ⟨ii, o⟩ => [(6, .int .i64 (ii : Int))]) [0, 1, 5] (0, List.replicate (la.length + lb.length) 0) ?_ (.cons rfl (.cons rfl (.cons rfl .nil))) ?_ ?_
 ·refine ⟨?_, by omega, by simp, (fun y hy => by rw [List.eq_of_mem_replicate hy]; omega), by simp [Ma.vb, Ma.vb_zeros]⟩
  exact hw1.cast (by rw [ints_replicate])
 ·exact (.cons rfl (by first | rfl | (refine congrArg (Value.int _) ?_; omega)) .nil)
 rintro ⟨ii, o⟩ w2 ⟨hw2, hi, hol, hDo, hval⟩
 show RunC P _ _ _ (_ :: _) _
 refine c_seq (c_seq (c_region (l_move rfl rfl rfl (l_move rfl rfl rfl ?_))))
 refine v_leni rfl rfl Tryz.underlying32 rfl (by first | exact hw2.io mem0 | exact hw2.iarg ha | exact hw2.iarg hb | assumption) ?_
 refine l_lss rfl rfl rfl rfl ?_
 refine l_nil (e_then ?_)
 refine c_keep [0, 1, 5, 6, 18] (.cons rfl (.cons rfl (.cons rfl (.cons rfl (.cons rfl .nil))))) ?_
 first | refine c_cond rfl (fun hc0 => ?_) (fun hc0 => ?_) | refine c_condb rfl (fun hc0 => ?_) (fun hc0 => ?_)
 ·skip
  refine c_skip (e_then ?_)
  refine c_keep [0, 1, 5, 6] (.cons rfl (.cons rfl (.cons rfl (.cons rfl .nil)))) ?_
  refine c_seq (c_block (c_seq (c_region (l_assign rfl rfl rfl (l_nil ?_)))))
  refine e_then (c_seq (c_region (l_assign rfl rfl rfl (l_nil (e_then ?_)))))
  refine c_block ?_
  refine c_loopk (ι := Nat × List Int × Int) (fun (z0 : Nat × List Int × Int) => match z0 with | ⟨k, o', c⟩ => lb.length + 1 - k) (fun (z0 : Nat × List Int × Int) (w' : World) => match z0 with | ⟨k, o', c⟩ => St w w.heap.size None' ([As.ri 3 .i64 v1_5 o']) w' ∧ k ≤ lb.length + 1 ∧ o'.length = la.length + lb.length ∧ D16 o' ∧ 0 ≤ c ∧ c ≤ 65535 ∧ rv o' + 65536 ^ (ii + k) * c = rv (la.take ii) * rv lb + 65536 ^ ii * la.getD ii 0 * rv (lb.take k)) (fun (z0 : Nat × List Int × Int) => match z0 with | ⟨k, o', c⟩ => [(7, .int .i64 c), (8, .int .i64 (k : Int))]) [0, 1, 5, 6] (0, o, 0) ?_ (.cons rfl (.cons rfl (.cons rfl (.cons rfl .nil)))) ?_ ?_
  ·exact ⟨hw2, by omega, hol, hDo, by omega, by omega, by rw [hval]; simp [Ma.vb]⟩
  ·exact (.cons rfl (by first | rfl | (refine congrArg (Value.int _) ?_; omega)) (.cons rfl (by first | rfl | (refine congrArg (Value.int _) ?_; omega)) .nil))
  rintro ⟨k, o', c⟩ w3 ⟨hw3, hk, hol', hDo', hc1, hc2, hval'⟩
  show RunC P _ _ _ (_ :: _) _
  refine c_seq (c_seq (c_region (l_move rfl rfl rfl (l_move rfl rfl rfl ?_))))
  refine v_leni rfl rfl Tryz.underlying32 rfl (by first | exact hw3.io mem0 | exact hw3.iarg ha | exact hw3.iarg hb | assumption) ?_
  refine l_lss rfl rfl rfl rfl ?_
  refine l_move rfl rfl rfl ?_
  apply l_or 2 [0, 1, 5, 6, 7, 8] rfl rfl (.cons rfl (.cons rfl (.cons rfl (.cons rfl (.cons rfl (.cons rfl (.cons rfl .nil))))))) rfl rfl (fun _ => rfl) rfl rfl rfl
  ·intro hg7_5
   refine l_move rfl rfl rfl ?_
   refine l_gtr rfl rfl rfl rfl ?_
   refine l_nil ?_
   exact e_stays rfl (.cons rfl (congrArg Value.bool (decide_eq_false hg7_5).symm) (.cons rfl rfl (.cons rfl rfl (.cons rfl rfl (.cons rfl rfl (.cons rfl rfl (.cons rfl rfl .nil)))))))
  refine l_nil (e_then ?_)
  refine c_keep [0, 1, 5, 6, 7, 8, 28] (.cons rfl (.cons rfl (.cons rfl (.cons rfl (.cons rfl (.cons rfl (.cons rfl .nil))))))) ?_
  first | refine c_cond rfl (fun hc1 => ?_) (fun hc1 => ?_) | refine c_condb rfl (fun hc1 => ?_) (fun hc1 => ?_)
  ·skip
   refine c_skip (e_then ?_)
   refine c_keep [0, 1, 5, 6, 7, 8] (.cons rfl (.cons rfl (.cons rfl (.cons rfl (.cons rfl (.cons rfl .nil)))))) ?_
   refine c_seq (c_block (c_seq (c_region ?_)))
   have hkl : k ≤ lb.length := by
    rcases Nat.lt_or_ge k lb.length with h | h
    ·omega
    ·exact Ma.prod_room (show (1 : Int) < 65536 by omega) hRa.dg hRb.dg hDo'.rv_nonneg (show 0 < c by omega) hval' (by omega)
   have hga := getD_d hDa ii
   have hgb := getD_d hDb k
   have hgo := getD_d hDo' (ii + k)
   have hik : ii + k < la.length + lb.length := by
    rcases Nat.lt_or_ge k lb.length with h | h
    ·omega
    ·omega
   have hpr := mul_lt (a := la.getD ii 0) (b := lb.getD k 0) (x := 65536) (y := 65536) (by omega) (by omega)
   refine l_move rfl rfl rfl (l_move rfl rfl rfl (l_move rfl rfl rfl (l_move rfl rfl rfl ?_)))
   refine l_add rfl rfl rfl rfl (w_i64 (by omega)) ?_
   refine v_getr (j := ii + k) rfl rfl rfl rfl Tryz.underlying32 tz3 Tryz.underlying3 rfl rfl (by first | exact hw3.io mem0 | exact hw3.iarg ha | exact hw3.iarg hb | assumption) (by assumption) rfl (by omega) (by first | omega | (simp; done) | (simp; omega)) (fun hb9_5 => ?_)
   refine l_add rfl rfl rfl rfl (w_i64 (by omega)) ?_
   refine l_assign rfl rfl rfl (l_nil (e_then ?_))
   refine c_keep [0, 1, 5, 6, 7, 8] (.cons rfl (.cons rfl (.cons rfl (.cons rfl (.cons rfl (.cons rfl .nil)))))) ?_
   refine c_cutk (ι := Int) (fun (t : Int) (w' : World) => St w w.heap.size None' ([As.ri 3 .i64 v1_5 o']) w' ∧ t = c + o'.getD (ii + k) 0 + la.getD ii 0 * lb.getD k 0) (fun (t : Int) => [(7, .int .i64 t)]) [0, 1, 5, 6, 8] (.cons rfl (.cons rfl (.cons rfl (.cons rfl (.cons rfl .nil))))) ?_ ?_
   ·skip
    refine c_seq (c_region (l_move rfl rfl rfl (l_move rfl rfl rfl ?_)))
    refine v_leni rfl rfl Tryz.underlying32 rfl (by first | exact hw3.io mem0 | exact hw3.iarg ha | exact hw3.iarg hb | assumption) ?_
    refine l_lss rfl rfl rfl rfl ?_
    refine l_nil (e_then ?_)
    refine c_keep [0, 1, 5, 6, 7, 8, 42] (.cons rfl (.cons rfl (.cons rfl (.cons rfl (.cons rfl (.cons rfl (.cons rfl .nil))))))) ?_
    first | refine c_cond rfl (fun hc2 => ?_) (fun hc2 => ?_) | refine c_condb rfl (fun hc2 => ?_) (fun hc2 => ?_)
    ·skip
     refine c_still (by kernel_rfl) (by kernel_rfl) ?_
     have hw4 := hw3.drewn
     try clear hw3
     refine l_move rfl rfl rfl (l_move rfl rfl rfl (l_move rfl rfl rfl ?_))
     refine v_getr rfl rfl rfl rfl Tryz.underlying32 tz3 Tryz.underlying3 rfl rfl (by first | exact hw4.io mem0 | exact hw4.iarg ha | exact hw4.iarg hb | assumption) (by assumption) rfl rfl (by first | omega | (simp; done) | (simp; omega)) (fun hb11_3 => ?_)
     refine l_move rfl rfl rfl (l_move rfl rfl rfl ?_)
     refine v_getr rfl rfl rfl rfl Tryz.underlying32 tz3 Tryz.underlying3 rfl rfl (by first | exact hw4.io mem0 | exact hw4.iarg ha | exact hw4.iarg hb | assumption) (by assumption) rfl rfl (by first | omega | (simp; done) | (simp; omega)) (fun hb11_7 => ?_)
     refine l_mul rfl rfl rfl rfl (w_i64 (by omega)) ?_
     refine l_add rfl rfl rfl rfl (w_i64 (by omega)) ?_
     refine l_assign rfl rfl rfl (l_nil ?_)
     refine e_meetk (c + o'.getD (ii + k) 0 + la.getD ii 0 * lb.getD k 0) ?_ (.cons rfl (.cons rfl (.cons rfl (.cons rfl (.cons rfl .nil))))) ?_
     ·exact ⟨hw4, rfl⟩
     ·exact (.cons rfl (by first | rfl | (refine congrArg (Value.int _) ?_; omega)) .nil)
    ·skip
     refine c_skip ?_
     refine e_meetk (c + o'.getD (ii + k) 0) ?_ (.cons rfl (.cons rfl (.cons rfl (.cons rfl (.cons rfl .nil))))) ?_
     ·exact ⟨hw3, by rw [getD_out (l := lb) (by omega)]; simp⟩
     ·exact (.cons rfl (by first | rfl | (refine congrArg (Value.int _) ?_; omega)) .nil)
   rintro t w5 ⟨hw5, htv⟩
   show RunC P _ _ _ (_ :: _) _
   refine c_seq (c_region (l_move rfl rfl rfl (l_move rfl rfl rfl (l_move rfl rfl rfl ?_))))
   refine l_add rfl rfl rfl rfl (w_i64 (by omega)) ?_
   refine l_move rfl rfl rfl ?_
   refine l_rem rfl rfl rfl rfl (by omega) (r_pos (by omega)) ?_
   refine v_addrn (j := ii + k) rfl rfl Tryz.underlying32 tz3 rfl rfl (by first | exact hw5.io mem0 | exact hw5.iarg ha | exact hw5.iarg hb | assumption) (by omega) (by first | omega | (simp; done) | (simp; omega)) (fun A12_6 c12_6 hA12_6 => ?_)
   refine v_storei hw5 .head hA12_6 rfl tz3 rfl rfl (by first | omega | (simp; done) | (simp; omega)) (fun w6 hw6 => ?_)
   try clear hw5
   refine l_nil (e_then ?_)
   refine c_keep [0, 1, 5, 6, 7, 8] (.cons rfl (.cons rfl (.cons rfl (.cons rfl (.cons rfl (.cons rfl .nil)))))) ?_
   refine c_region (l_move rfl rfl rfl ?_)
   refine l_quo rfl rfl rfl rfl (by omega) (q_i64 (by omega)) ?_
   refine l_assign rfl rfl rfl (l_nil ?_)
   refine e_blk ?_
   refine e_then ?_
   refine c_keep [0, 1, 5, 6, 7, 8] (.cons rfl (.cons rfl (.cons rfl (.cons rfl (.cons rfl (.cons rfl .nil)))))) ?_
   refine c_region (l_move rfl rfl rfl ?_)
   refine l_add rfl rfl rfl rfl (w_i64 (by omega)) ?_
   refine l_assign rfl rfl rfl (l_nil ?_)
   refine e_againk (i := (k, o', c)) (k + 1, o'.set (ii + k) (t % 65536), t / 65536) ?_ ?_ (.cons rfl (.cons rfl (.cons rfl (.cons rfl .nil)))) ?_
   ·first | omega | (simp; omega)
   ·refine ⟨hw6, by omega, by simpa using hol', fun y hy => (List.mem_or_eq_of_mem_set hy).elim (hDo' y) (fun e => by rw [e]; omega), by omega, by omega, ?_⟩
    have h1 := Ma.vb_set_at 65536 o' (ii + k) (t % 65536) (by omega)
    have h2 := Ma.vb_take_succ 65536 lb k
    have h3 := Ma.prod_step (B := 65536) (p := 65536 ^ (ii + k)) (x := la.getD ii 0 * lb.getD k 0) (by omega) hval' (o'.getD (ii + k) 0) htv
    show Ma.vb _ _ + _ = _ + _ * Ma.vb _ _
    rw [h1, h2, ← Nat.add_assoc, Int.pow_succ, h3, Int.pow_add, Int.mul_add, ← Int.add_assoc]
    congr 1
    rw [Int.mul_assoc, Int.mul_assoc, Int.mul_left_comm (la.getD ii 0)]
   ·exact (.cons rfl (by first | rfl | (refine congrArg (Value.int _) ?_; omega)) (.cons rfl (by first | rfl | (refine congrArg (Value.int _) ?_; omega)) .nil))
  ·skip
   refine c_exit ?_
   refine e_then_exit ?_
   refine e_then_exit ?_
   refine e_blk_exit ?_
   refine e_blk ?_
   refine e_then ?_
   refine c_keep [0, 1, 5, 6] (.cons rfl (.cons rfl (.cons rfl (.cons rfl .nil)))) ?_
   refine c_region (l_move rfl rfl rfl ?_)
   refine l_add rfl rfl rfl rfl (w_i64 (by omega)) ?_
   refine l_assign rfl rfl rfl (l_nil ?_)
   refine e_againk (i := (ii, o)) (ii + 1, o') ?_ ?_ (.cons rfl (.cons rfl (.cons rfl .nil))) ?_
   ·first | omega | (simp; omega)
   ·have hc0' : c = 0 := by omega
    rw [hc0', Int.mul_zero, Int.add_zero, List.take_of_length_le (show lb.length ≤ k by omega), ← Int.add_mul] at hval'
    refine ⟨hw3, by omega, hol', hDo', ?_⟩
    show _ = Ma.vb _ _ * _
    rw [Ma.vb_take_succ]
    exact hval'
   ·exact (.cons rfl (by first | rfl | (refine congrArg (Value.int _) ?_; omega)) .nil)
 ·skip
  refine c_exit ?_
  refine e_then_exit ?_
  refine e_then_exit ?_
  refine e_blk_exit ?_
  refine e_then ?_
  refine c_keep [5] (.cons rfl .nil) ?_
  refine c_seq (c_region (l_move rfl rfl rfl ?_))
  refine l_call rfl rfl Tryz.func58 rfl rfl (.cons rfl .nil) (trimR_turn hDo (by omega) (hw2.io mem0)) ?_
  rintro _ w7 ⟨v', rfl, hT, _⟩
  have hw7 := hT _ _ _ _ _ .head hw2
  try clear hT hw2
  refine l_assign rfl rfl rfl (l_nil (e_then ?_))
  refine c_keep [4] (.cons rfl .nil) ?_
  refine c_ret ?_
  refine e_done1 Tryz.results52 rfl ?_
  refine ⟨_, rfl, ?_⟩
  rw [List.take_of_length_le (by omega)] at hval
  refine ⟨_, _, rfl, Ma.Cn.of_tr hDo.dg (hval.trans ?_), hw7.grows⟩
  show Ma.vb 65536 la * Ma.vb 65536 lb = _
  rw [hRa.val, hRb.val]
end Go.Proofs.YtggdkplphfofkaaGreat.W
