/- walks of the reference's Cmp, Less, two, Left, Right -/
import Derived.Test.YtggdkplphfofkaaGreatRc
import Derived.Test.YtggdkplphfofkaaGreatFa
import Derived.Test.YtggdkplphfofkaaGreatVe
set_option linter.unusedVariables false
set_option linter.unusedSimpArgs false
set_option maxRecDepth 10000
namespace Go.Proofs.YtggdkplphfofkaaGreat.W
open Go.Vc Go.RowKit
theorem cmpR (a b : Value) (la lb : List Int) (na nb : Int) (hRa : R16 la na) (hRb : R16 lb nb) (hLa : la.length ≤ 1099511627776) (hLb : lb.length ≤ 1099511627776) (w : World) (ha : IV w a (ints .i64 la)) (hb : IV w b (ints .i64 lb)) :
  CallsV P 56 [a, b] w fun r w' => r = .int .i64 (cmpI na nb) ∧ Grow w w' [] := by
 refine enterW Tryz.func56 rfl Tryz.ntmps56 rfl ?_
 have hw0 := St.start w
 have hDa := hRa.d
 have hDb := hRb.d
 refine c_seq (c_region (l_assign rfl rfl rfl (l_nil (e_then ?_))))
 refine c_keep [0, 1] (.cons rfl (.cons rfl .nil)) ?_
 refine c_seq (c_seq (c_region (l_move rfl rfl rfl ?_)))
 refine v_leni rfl rfl Tryz.underlying32 rfl (by first | exact hw0.iarg ha | exact hw0.iarg hb | assumption) ?_
 refine l_move rfl rfl rfl ?_
 refine v_leni rfl rfl Tryz.underlying32 rfl (by first | exact hw0.iarg ha | exact hw0.iarg hb | assumption) ?_
 refine l_neq rfl rfl rfl rfl ?_
 refine l_nil (e_then ?_)
 refine c_keep [0, 1, 10] (.cons rfl (.cons rfl (.cons rfl .nil))) ?_
 first | refine c_cond rfl (fun hc0 => ?_) (fun hc0 => ?_) | refine c_condb rfl (fun hc0 => ?_) (fun hc0 => ?_)
 ·skip
  refine c_seq (c_seq (c_region (l_move rfl rfl rfl ?_)))
  refine v_leni rfl rfl Tryz.underlying32 rfl (by first | exact hw0.iarg ha | exact hw0.iarg hb | assumption) ?_
  refine l_move rfl rfl rfl ?_
  refine v_leni rfl rfl Tryz.underlying32 rfl (by first | exact hw0.iarg ha | exact hw0.iarg hb | assumption) ?_
  refine l_lss rfl rfl rfl rfl ?_
  refine l_nil (e_then ?_)
  refine c_keep [15] (.cons rfl .nil) ?_
  first | refine c_cond rfl (fun hc1 => ?_) (fun hc1 => ?_) | refine c_condb rfl (fun hc1 => ?_) (fun hc1 => ?_)
  ·skip
   refine c_seq (c_region (l_assign rfl rfl rfl (l_nil (e_then ?_))))
   refine c_keep [4] (.cons rfl .nil) ?_
   refine c_ret ?_
   refine e_then_ret ?_
   refine e_then_ret ?_
   refine e_done1 Tryz.results56 rfl ?_
   refine ⟨_, rfl, ?_⟩
   exact ⟨by rw [cmpI_lt (hRa.lt_of_len (by omega) hRb (by omega))], hw0.grows⟩
  ·skip
   refine c_skip (e_then ?_)
   refine c_keep [] .nil ?_
   refine c_seq (c_region (l_assign rfl rfl rfl (l_nil (e_then ?_))))
   refine c_ret ?_
   refine e_then_ret ?_
   refine e_done1 Tryz.results56 rfl ?_
   refine ⟨_, rfl, ?_⟩
   exact ⟨by rw [cmpI_gt (hRb.lt_of_len (by omega) hRa (by omega))], hw0.grows⟩
 ·skip
  refine c_skip (e_then ?_)
  refine c_keep [0, 1] (.cons rfl (.cons rfl .nil)) ?_
  refine c_seq (c_seq (c_region ?_))
  have hlen : la.length = lb.length := by omega
  refine l_move rfl rfl rfl ?_
  refine v_leni rfl rfl Tryz.underlying32 rfl (by first | exact hw0.iarg ha | exact hw0.iarg hb | assumption) ?_
  refine l_sub rfl rfl rfl rfl (w_i64 (by omega)) ?_
  refine l_assign rfl rfl rfl (l_nil (e_then ?_))
  refine c_keep [0, 1, 5] (.cons rfl (.cons rfl (.cons rfl .nil))) ?_
  refine c_block ?_
  refine c_loopk (ι := Nat) (fun (k : Nat) => k) (fun (k : Nat) (w' : World) => St w w.heap.size None' ([]) w' ∧ k ≤ la.length ∧ la.drop k = lb.drop k) (fun (k : Nat) => [(5, .int .i64 ((k : Int) - 1))]) [0, 1] (la.length) ?_ (.cons rfl (.cons rfl .nil)) ?_ ?_
  ·exact ⟨hw0, Nat.le_refl _, by rw [List.drop_length, hlen, List.drop_length]⟩
  ·exact (.cons rfl (by first | rfl | (refine congrArg (Value.int _) ?_; omega)) .nil)
  rintro k w1 ⟨hw1, hk, hd⟩
  show RunC P _ _ _ (_ :: _) _
  refine c_seq (c_seq (c_region (l_move rfl rfl rfl ?_)))
  refine l_geq rfl rfl rfl rfl ?_
  refine l_nil (e_then ?_)
  refine c_keep [0, 1, 5, 20] (.cons rfl (.cons rfl (.cons rfl (.cons rfl .nil)))) ?_
  first | refine c_cond rfl (fun hc2 => ?_) (fun hc2 => ?_) | refine c_condb rfl (fun hc2 => ?_) (fun hc2 => ?_)
  ·skip
   refine c_skip (e_then ?_)
   refine c_keep [0, 1, 5] (.cons rfl (.cons rfl (.cons rfl .nil))) ?_
   refine c_seq (c_block (c_seq (c_seq ?_)))
   refine c_still (by kernel_rfl) (by kernel_rfl) ?_
   have hw2 := hw1.drewn
   try clear hw1
   refine l_move rfl rfl rfl (l_move rfl rfl rfl ?_)
   refine v_getr (j := k - 1) rfl rfl rfl rfl Tryz.underlying32 tz3 Tryz.underlying3 rfl rfl (by first | exact hw2.iarg ha | exact hw2.iarg hb | assumption) (by assumption) rfl (by omega) (by first | omega | (simp; done) | (simp; omega)) (fun hb8_2 => ?_)
   refine l_move rfl rfl rfl (l_move rfl rfl rfl ?_)
   refine v_getr (j := k - 1) rfl rfl rfl rfl Tryz.underlying32 tz3 Tryz.underlying3 rfl rfl (by first | exact hw2.iarg ha | exact hw2.iarg hb | assumption) (by assumption) rfl (by omega) (by first | omega | (simp; done) | (simp; omega)) (fun hb8_6 => ?_)
   refine l_lss rfl rfl rfl rfl ?_
   refine l_nil (e_then ?_)
   refine c_keep [0, 1, 5, 31] (.cons rfl (.cons rfl (.cons rfl (.cons rfl .nil)))) ?_
   first | refine c_cond rfl (fun hc3 => ?_) (fun hc3 => ?_) | refine c_condb rfl (fun hc3 => ?_) (fun hc3 => ?_)
   ·skip
    refine c_seq (c_region (l_assign rfl rfl rfl (l_nil (e_then ?_))))
    refine c_keep [4] (.cons rfl .nil) ?_
    refine c_ret ?_
    refine e_then_ret ?_
    refine e_blk_ret ?_
    refine e_then_ret ?_
    refine e_then_ret ?_
    refine e_blk_ret ?_
    refine e_then_ret ?_
    refine e_done1 Tryz.results56 rfl ?_
    refine ⟨_, rfl, ?_⟩
    have hd' : la.drop (k - 1 + 1) = lb.drop (k - 1 + 1) := by rw [show k - 1 + 1 = k from by omega]; exact hd
    have h := Ma.vb_lt_of_top (show (0 : Int) < 65536 by omega) hDa.dg hDb.dg hlen (k := k - 1) (by omega) hd' (by omega)
    rw [hRa.val, hRb.val] at h
    exact ⟨by rw [cmpI_lt h], hw2.grows⟩
   ·skip
    refine c_skip (e_then ?_)
    refine c_keep [0, 1, 5] (.cons rfl (.cons rfl (.cons rfl .nil))) ?_
    refine c_seq ?_
    refine c_still (by kernel_rfl) (by kernel_rfl) ?_
    have hw3 := hw2.drewn
    try clear hw2
    refine l_move rfl rfl rfl (l_move rfl rfl rfl ?_)
    refine v_getr (j := k - 1) rfl rfl rfl rfl Tryz.underlying32 tz3 Tryz.underlying3 rfl rfl (by first | exact hw3.iarg ha | exact hw3.iarg hb | assumption) (by assumption) rfl (by omega) (by first | omega | (simp; done) | (simp; omega)) (fun hb10_2 => ?_)
    refine l_move rfl rfl rfl (l_move rfl rfl rfl ?_)
    refine v_getr (j := k - 1) rfl rfl rfl rfl Tryz.underlying32 tz3 Tryz.underlying3 rfl rfl (by first | exact hw3.iarg ha | exact hw3.iarg hb | assumption) (by assumption) rfl (by omega) (by first | omega | (simp; done) | (simp; omega)) (fun hb10_6 => ?_)
    refine l_gtr rfl rfl rfl rfl ?_
    refine l_nil (e_then ?_)
    refine c_keep [0, 1, 5, 40] (.cons rfl (.cons rfl (.cons rfl (.cons rfl .nil)))) ?_
    first | refine c_cond rfl (fun hc4 => ?_) (fun hc4 => ?_) | refine c_condb rfl (fun hc4 => ?_) (fun hc4 => ?_)
    ·skip
     refine c_seq (c_region (l_assign rfl rfl rfl (l_nil (e_then ?_))))
     refine c_keep [4] (.cons rfl .nil) ?_
     refine c_ret ?_
     refine e_blk_ret ?_
     refine e_then_ret ?_
     refine e_then_ret ?_
     refine e_blk_ret ?_
     refine e_then_ret ?_
     refine e_done1 Tryz.results56 rfl ?_
     refine ⟨_, rfl, ?_⟩
     have hd' : lb.drop (k - 1 + 1) = la.drop (k - 1 + 1) := by rw [show k - 1 + 1 = k from by omega]; exact hd.symm
     have h := Ma.vb_lt_of_top (show (0 : Int) < 65536 by omega) hDb.dg hDa.dg hlen.symm (k := k - 1) (by omega) hd' (by omega)
     rw [hRa.val, hRb.val] at h
     exact ⟨by rw [cmpI_gt h], hw3.grows⟩
    ·skip
     refine c_skip ?_
     refine e_blk ?_
     refine e_then ?_
     refine c_keep [0, 1, 5] (.cons rfl (.cons rfl (.cons rfl .nil))) ?_
     refine c_region (l_move rfl rfl rfl ?_)
     refine l_sub rfl rfl rfl rfl (w_i64 (by omega)) ?_
     refine l_assign rfl rfl rfl (l_nil ?_)
     refine e_againk (i := (k)) (k - 1) ?_ ?_ (.cons rfl (.cons rfl .nil)) ?_
     ·first | omega | (simp; omega)
     ·have e1 := drop_split (l := la) (k := k - 1) (by omega)
      have e2 := drop_split (l := lb) (k := k - 1) (by omega)
      refine ⟨hw3, by omega, ?_⟩
      rw [e1, e2, show k - 1 + 1 = k from by omega, hd, show la.getD (k - 1) 0 = lb.getD (k - 1) 0 from by omega]
     ·exact (.cons rfl (by first | rfl | (refine congrArg (Value.int _) ?_; omega)) .nil)
  ·skip
   refine c_exit ?_
   refine e_then_exit ?_
   refine e_then_exit ?_
   refine e_blk_exit ?_
   refine e_then ?_
   refine c_keep [] .nil ?_
   refine c_seq (c_region (l_assign rfl rfl rfl (l_nil (e_then ?_))))
   refine c_ret ?_
   refine e_done1 Tryz.results56 rfl ?_
   refine ⟨_, rfl, ?_⟩
   have hk0 : k = 0 := by omega
   subst hk0
   simp only [List.drop_zero] at hd
   exact ⟨by rw [cmpI_eq (hRa.val.symm.trans ((congrArg _ hd).trans hRb.val))], hw1.grows⟩
theorem lessR (a b : Value) (la lb : List Int) (na nb : Int) (hRa : R16 la na) (hRb : R16 lb nb) (hLa : la.length ≤ 1099511627776) (hLb : lb.length ≤ 1099511627776) (hge : nb ≤ na) (w : World) (ha : IV w a (ints .i64 la)) (hb : IV w b (ints .i64 lb)) :
  CallsV P 57 [a, b] w fun r w' => ∃ v ls, r = v ∧ R16 ls (na - nb) ∧ Grow w w' [As.ri 3 .i64 v ls] := by
 refine enterW Tryz.func57 rfl Tryz.ntmps57 rfl ?_
 have hw0 := St.start w
 have hDa := hRa.d
 have hDb := hRb.d
 have hll : lb.length ≤ la.length := by
  rcases Nat.lt_or_ge la.length lb.length with h | h
  ·have := hRa.lt_of_len (show (1 : Int) < 65536 by omega) hRb h
   omega
  ·exact h
 refine c_seq (c_region (l_assign rfl rfl rfl (l_nil (e_then ?_))))
 refine c_keep [0, 1] (.cons rfl (.cons rfl .nil)) ?_
 refine c_seq (c_region (l_assign rfl rfl rfl (l_nil (e_then (c_seq ?_)))))
 refine c_region (l_assign rfl rfl rfl (l_nil (e_then (c_seq (c_seq ?_)))))
 refine c_region (l_assign rfl rfl rfl (l_nil (e_then (c_block ?_))))
 refine c_loopk (ι := Nat × List Int × Int × Value) (fun (z0 : Nat × List Int × Int × Value) => match z0 with | ⟨k, o, c, vo⟩ => la.length - k) (fun (z0 : Nat × List Int × Int × Value) (w' : World) => match z0 with | ⟨k, o, c, vo⟩ => St w w.heap.size None' ([As.ri 3 .i64 vo o]) w' ∧ k ≤ la.length ∧ o.length = k ∧ D16 o ∧ 0 ≤ c ∧ c ≤ 1 ∧ rv o = rv (la.take k) - rv (lb.take k) + 65536 ^ k * c) (fun (z0 : Nat × List Int × Int × Value) => match z0 with | ⟨k, o, c, vo⟩ => [(5, vo), (6, .int .i64 c), (7, .int .i64 (k : Int))]) [0, 1] (0, [], 0, .slice none 0 0) ?_ (.cons rfl (.cons rfl .nil)) ?_ ?_
 ·exact ⟨hw0.nil 3, by omega, rfl, D16.nil, by omega, by omega, by simp [Ma.vb]⟩
 ·exact (.cons rfl (by first | rfl | (refine congrArg (Value.int _) ?_; omega)) (.cons rfl (by first | rfl | (refine congrArg (Value.int _) ?_; omega)) (.cons rfl (by first | rfl | (refine congrArg (Value.int _) ?_; omega)) .nil)))
 rintro ⟨k, o, c, vo⟩ w1 ⟨hw1, hk, hol, hDo, hc1, hc2, hval⟩
 show RunC P _ _ _ (_ :: _) _
 refine c_seq (c_seq (c_region (l_move rfl rfl rfl (l_move rfl rfl rfl ?_))))
 refine v_leni rfl rfl Tryz.underlying32 rfl (by first | exact hw1.io mem0 | exact hw1.iarg ha | exact hw1.iarg hb | assumption) ?_
 refine l_lss rfl rfl rfl rfl ?_
 refine l_nil (e_then ?_)
 refine c_keep [0, 1, 5, 6, 7, 12] (.cons rfl (.cons rfl (.cons rfl (.cons rfl (.cons rfl (.cons rfl .nil)))))) ?_
 first | refine c_cond rfl (fun hc0 => ?_) (fun hc0 => ?_) | refine c_condb rfl (fun hc0 => ?_) (fun hc0 => ?_)
 ·skip
  refine c_skip (e_then ?_)
  refine c_keep [0, 1, 5, 6, 7] (.cons rfl (.cons rfl (.cons rfl (.cons rfl (.cons rfl .nil))))) ?_
  refine c_seq (c_block (c_seq (c_region ?_)))
  have hga := getD_d hDa k
  have hgb := getD_d hDb k
  refine l_move rfl rfl rfl (l_move rfl rfl rfl ?_)
  refine v_getr rfl rfl rfl rfl Tryz.underlying32 tz3 Tryz.underlying3 rfl rfl (by first | exact hw1.io mem0 | exact hw1.iarg ha | exact hw1.iarg hb | assumption) (by assumption) rfl rfl (by first | omega | (simp; done) | (simp; omega)) (fun hb6_2 => ?_)
  refine l_move rfl rfl rfl ?_
  refine l_sub rfl rfl rfl rfl (w_i64 (by omega)) ?_
  refine l_assign rfl rfl rfl (l_nil (e_then ?_))
  refine c_keep [0, 1, 5, 7, 8] (.cons rfl (.cons rfl (.cons rfl (.cons rfl (.cons rfl .nil))))) ?_
  refine c_cutk (ι := Int) (fun (d1 : Int) (w' : World) => St w w.heap.size None' ([As.ri 3 .i64 vo o]) w' ∧ d1 = la.getD k 0 - c - lb.getD k 0) (fun (d1 : Int) => [(8, .int .i64 d1)]) [0, 1, 5, 7] (.cons rfl (.cons rfl (.cons rfl (.cons rfl .nil)))) ?_ ?_
  ·skip
   refine c_seq (c_region ?_)
   have hga := getD_d hDa k
   have hgb := getD_d hDb k
   refine l_move rfl rfl rfl (l_move rfl rfl rfl ?_)
   refine v_leni rfl rfl Tryz.underlying32 rfl (by first | exact hw1.io mem0 | exact hw1.iarg ha | exact hw1.iarg hb | assumption) ?_
   refine l_lss rfl rfl rfl rfl ?_
   refine l_nil (e_then ?_)
   refine c_keep [0, 1, 5, 7, 8, 24] (.cons rfl (.cons rfl (.cons rfl (.cons rfl (.cons rfl (.cons rfl .nil)))))) ?_
   first | refine c_cond rfl (fun hc1 => ?_) (fun hc1 => ?_) | refine c_condb rfl (fun hc1 => ?_) (fun hc1 => ?_)
   ·skip
    refine c_region (l_move rfl rfl rfl (l_move rfl rfl rfl (l_move rfl rfl rfl ?_)))
    refine v_getr rfl rfl rfl rfl Tryz.underlying32 tz3 Tryz.underlying3 rfl rfl (by first | exact hw1.io mem0 | exact hw1.iarg ha | exact hw1.iarg hb | assumption) (by assumption) rfl rfl (by first | omega | (simp; done) | (simp; omega)) (fun hb8_3 => ?_)
    refine l_sub rfl rfl rfl rfl (w_i64 (by omega)) ?_
    refine l_assign rfl rfl rfl (l_nil ?_)
    refine e_meetk (la.getD k 0 - c - lb.getD k 0) ?_ (.cons rfl (.cons rfl (.cons rfl (.cons rfl .nil)))) ?_
    ·exact ⟨hw1, rfl⟩
    ·exact (.cons rfl (by first | rfl | (refine congrArg (Value.int _) ?_; omega)) .nil)
   ·skip
    refine c_skip ?_
    refine e_meetk (la.getD k 0 - c) ?_ (.cons rfl (.cons rfl (.cons rfl (.cons rfl .nil)))) ?_
    ·exact ⟨hw1, by rw [getD_out (l := lb) (by omega)]; omega⟩
    ·exact (.cons rfl (by first | rfl | (refine congrArg (Value.int _) ?_; omega)) .nil)
  rintro d1 w2 ⟨hw2, hd1⟩
  show RunC P _ _ _ (_ :: _) _
  refine c_seq (c_region (l_assign rfl rfl rfl (l_nil (e_then ?_))))
  refine c_cutk (ι := Int × Int) (fun (z0 : Int × Int) (w' : World) => match z0 with | ⟨d2, c2⟩ => St w w.heap.size None' ([As.ri 3 .i64 vo o]) w' ∧ 0 ≤ d2 ∧ d2 ≤ 65535 ∧ 0 ≤ c2 ∧ c2 ≤ 1 ∧ d2 - 65536 * c2 = d1) (fun (z0 : Int × Int) => match z0 with | ⟨d2, c2⟩ => [(6, .int .i64 c2), (8, .int .i64 d2)]) [0, 1, 5, 7] (.cons rfl (.cons rfl (.cons rfl (.cons rfl .nil)))) ?_ ?_
  ·skip
   refine c_seq (c_region ?_)
   have hga := getD_d hDa k
   have hgb := getD_d hDb k
   refine l_move rfl rfl rfl ?_
   refine l_lss rfl rfl rfl rfl ?_
   refine l_nil (e_then ?_)
   refine c_keep [0, 1, 5, 6, 7, 8, 32] (.cons rfl (.cons rfl (.cons rfl (.cons rfl (.cons rfl (.cons rfl (.cons rfl .nil))))))) ?_
   first | refine c_cond rfl (fun hc2 => ?_) (fun hc2 => ?_) | refine c_condb rfl (fun hc2 => ?_) (fun hc2 => ?_)
   ·skip
    refine c_seq (c_region (l_move rfl rfl rfl ?_))
    refine l_add rfl rfl rfl rfl (w_i64 (by omega)) ?_
    refine l_assign rfl rfl rfl (l_nil (e_then ?_))
    refine c_keep [0, 1, 5, 7, 8] (.cons rfl (.cons rfl (.cons rfl (.cons rfl (.cons rfl .nil))))) ?_
    refine c_region (l_assign rfl rfl rfl (l_nil ?_))
    refine e_meetk (d1 + 65536, 1) ?_ (.cons rfl (.cons rfl (.cons rfl (.cons rfl .nil)))) ?_
    ·exact ⟨hw2, by omega, by omega, by omega, by omega, by omega⟩
    ·exact (.cons rfl (by first | rfl | (refine congrArg (Value.int _) ?_; omega)) (.cons rfl (by first | rfl | (refine congrArg (Value.int _) ?_; omega)) .nil))
   ·skip
    refine c_skip ?_
    refine e_meetk (d1, 0) ?_ (.cons rfl (.cons rfl (.cons rfl (.cons rfl .nil)))) ?_
    ·exact ⟨hw2, by omega, by omega, by omega, by omega, by omega⟩
    ·exact (.cons rfl (by first | rfl | (refine congrArg (Value.int _) ?_; omega)) (.cons rfl (by first | rfl | (refine congrArg (Value.int _) ?_; omega)) .nil))
  rintro ⟨d2, c2⟩ w3 ⟨hw3, hd20, hd21, hc20, hc21, hd2⟩
  show RunC P _ _ _ (_ :: _) _
  refine c_region (l_move rfl rfl rfl (l_move rfl rfl rfl ?_))
  refine v_lit hw3 rfl rfl Tryz.underlying32 ti3 rfl (.cons rfl (by first | rfl | assumption) .nil) rfl rfl rfl (fun b13_2 w4 hw4 => ?_)
  try clear hw3
  refine v_push hw4 rfl rfl Tryz.underlying32 ti3 rfl rfl rfl rfl (by first | (simp [Value.oneCell']; done) | (intro u hu; rw [List.mem_singleton.1 hu]; assumption)) (by first | (simp; done) | (simp; omega)) (by first | (simp; done) | (simp; omega)) (fun v13_3 w5 hw5 => ?_)
  try clear hw4
  refine l_assign rfl rfl rfl (l_nil ?_)
  refine e_blk ?_
  refine e_then ?_
  refine c_keep [0, 1, 5, 6, 7] (.cons rfl (.cons rfl (.cons rfl (.cons rfl (.cons rfl .nil))))) ?_
  refine c_region (l_move rfl rfl rfl ?_)
  refine l_add rfl rfl rfl rfl (w_i64 (by omega)) ?_
  refine l_assign rfl rfl rfl (l_nil ?_)
  refine e_againk (i := (k, o, c, vo)) (k + 1, o ++ [d2], c2, v13_3) ?_ ?_ (.cons rfl (.cons rfl .nil)) ?_
  ·first | omega | (simp; omega)
  ·refine ⟨hw5.cast (by rw [ints_snoc]), by omega, by simp; omega, hDo.snoc (by omega), by omega, by omega, ?_⟩
   rw [rv_snoc, hol, Int.pow_succ, hval]
   have h2 := Ma.vb_take_succ 65536 la k
   have h3 := Ma.vb_take_succ 65536 lb k
   show _ = Ma.vb _ _ - Ma.vb _ _ + _
   rw [h2, h3]
   have e : 65536 ^ k * c + 65536 ^ k * d2 = 65536 ^ k * la.getD k 0 - 65536 ^ k * lb.getD k 0 + 65536 ^ k * 65536 * c2 := by
    rw [← Int.mul_add, Int.mul_assoc, ← Int.mul_sub, ← Int.mul_add]
    congr 1
    omega
   show rv (la.take k) - rv (lb.take k) + 65536 ^ k * c + 65536 ^ k * d2 = rv (la.take k) + 65536 ^ k * la.getD k 0 - (rv (lb.take k) + 65536 ^ k * lb.getD k 0) + _
   omega
  ·exact (.cons rfl (by first | rfl | (refine congrArg (Value.int _) ?_; omega)) (.cons rfl (by first | rfl | (refine congrArg (Value.int _) ?_; omega)) (.cons rfl (by first | rfl | (refine congrArg (Value.int _) ?_; omega)) .nil)))
 ·skip
  refine c_exit ?_
  refine e_then_exit ?_
  refine e_then_exit ?_
  refine e_blk_exit ?_
  refine e_then ?_
  refine c_keep [5] (.cons rfl .nil) ?_
  refine c_seq (c_region (l_move rfl rfl rfl ?_))
  refine l_call rfl rfl Tryz.func58 rfl rfl (.cons rfl .nil) (trimR_turn hDo (by omega) (hw1.io mem0)) ?_
  rintro _ w6 ⟨v', rfl, hT, _⟩
  have hw6 := hT _ _ _ _ _ .head hw1
  try clear hT hw1
  refine l_assign rfl rfl rfl (l_nil (e_then ?_))
  refine c_keep [4] (.cons rfl .nil) ?_
  refine c_ret ?_
  refine e_done1 Tryz.results57 rfl ?_
  refine ⟨_, rfl, ?_⟩
  obtain rfl : k = la.length := by omega
  rw [List.take_length, List.take_of_length_le hll, show rv la = na from hRa.val, show rv lb = nb from hRb.val] at hval
  have hlt : rv o < 65536 ^ o.length := Ma.vb_lt (show (0 : Int) < 65536 by omega) hDo.dg
  rw [hol] at hlt
  have hc0 : c = 0 := by
   have h01 : c = 0 ∨ c = 1 := by omega
   rcases h01 with h | h
   ·exact h
   ·rw [h] at hval
    omega
  rw [hc0] at hval
  exact ⟨_, _, rfl, Ma.Cn.of_tr hDo.dg (by show rv o = _; omega), hw6.grows⟩
theorem twoR (n : Nat) (hn : n ≤ 15) (w : World) :
  CallsV P 54 [.int .i64 (n : Int)] w fun r w' => r = .int .i64 (2 ^ n) ∧ w = w' := by
 refine enterW Tryz.func54 rfl Tryz.ntmps54 rfl ?_
 refine c_seq (c_region (l_assign rfl rfl rfl (l_nil (e_then ?_))))
 refine c_keep [0] (.cons rfl .nil) ?_
 refine c_seq (c_region (l_assign rfl rfl rfl (l_nil (e_then (c_seq ?_)))))
 refine c_seq (c_region (l_assign rfl rfl rfl (l_nil (e_then (c_block ?_)))))
 refine c_loopk (ι := Nat × Int) (fun (z0 : Nat × Int) => match z0 with | ⟨k, x⟩ => n - k) (fun (z0 : Nat × Int) (w' : World) => match z0 with | ⟨k, x⟩ => w = w' ∧ k ≤ n ∧ x = 2 ^ k ∧ 0 ≤ x ∧ x ≤ 32768) (fun (z0 : Nat × Int) => match z0 with | ⟨k, x⟩ => [(3, .int .i64 x), (4, .int .i64 (k : Int))]) [0] (0, 1) ?_ (.cons rfl .nil) ?_ ?_
 ·exact ⟨rfl, by omega, rfl, by omega, by omega⟩
 ·exact (.cons rfl (by first | rfl | (refine congrArg (Value.int _) ?_; omega)) (.cons rfl (by first | rfl | (refine congrArg (Value.int _) ?_; omega)) .nil))
 rintro ⟨k, x⟩ _ ⟨rfl, hk, hx, hx0, hx1⟩
 show RunC P _ _ _ (_ :: _) _
 have hpw := Ma.pow_mono (show (1 : Int) ≤ 2 by omega) (show k + 1 ≤ 16 by omega)
 have hps := Int.pow_succ 2 k
 refine c_seq (c_seq (c_region (l_move rfl rfl rfl (l_move rfl rfl rfl ?_))))
 refine l_lss rfl rfl rfl rfl ?_
 refine l_nil (e_then ?_)
 refine c_keep [0, 3, 4, 7] (.cons rfl (.cons rfl (.cons rfl (.cons rfl .nil)))) ?_
 first | refine c_cond rfl (fun hc0 => ?_) (fun hc0 => ?_) | refine c_condb rfl (fun hc0 => ?_) (fun hc0 => ?_)
 ·skip
  refine c_skip (e_then ?_)
  refine c_keep [0, 3, 4] (.cons rfl (.cons rfl (.cons rfl .nil))) ?_
  refine c_seq (c_block (c_region (l_move rfl rfl rfl ?_)))
  refine l_mul rfl rfl rfl rfl (w_i64 (by omega)) ?_
  refine l_assign rfl rfl rfl (l_nil ?_)
  refine e_blk ?_
  refine e_then ?_
  refine c_keep [0, 3, 4] (.cons rfl (.cons rfl (.cons rfl .nil))) ?_
  refine c_region (l_move rfl rfl rfl ?_)
  refine l_add rfl rfl rfl rfl (w_i64 (by omega)) ?_
  refine l_assign rfl rfl rfl (l_nil ?_)
  refine e_againk (i := (k, x)) (k + 1, 2 * x) ?_ ?_ (.cons rfl .nil) ?_
  ·first | omega | (simp; omega)
  ·have hpm := Ma.pow_mono (show (1 : Int) ≤ 2 by omega) (show k + 1 ≤ 15 by omega)
   have e15 : (2 : Int) ^ 15 = 32768 := (by decide)
   refine ⟨rfl, by omega, by omega, by omega, by omega⟩
  ·exact (.cons rfl (by first | rfl | (refine congrArg (Value.int _) ?_; omega)) (.cons rfl (by first | rfl | (refine congrArg (Value.int _) ?_; omega)) .nil))
 ·skip
  refine c_exit ?_
  refine e_then_exit ?_
  refine e_then_exit ?_
  refine e_blk_exit ?_
  refine e_then ?_
  refine c_keep [3] (.cons rfl .nil) ?_
  refine c_seq (c_region (l_move rfl rfl rfl (l_assign rfl rfl rfl (l_nil (e_then ?_)))))
  refine c_keep [2] (.cons rfl .nil) ?_
  refine c_ret ?_
  refine e_done1 Tryz.results54 rfl ?_
  refine ⟨_, rfl, ?_⟩
  obtain rfl : k = n := by omega
  exact ⟨by rw [hx], rfl⟩
theorem rv_zeros (q : Nat) (l : List Int) : rv (List.replicate q 0 ++ l) = 65536 ^ q * rv l := by
 show Ma.vb _ _ = _
 rw [Ma.vb_append, Ma.vb_zeros, List.length_replicate, Int.zero_add]
theorem p16 (q : Nat) : (65536 : Int) ^ q = 2 ^ (16 * q) := by rw [Int.pow_mul]; rfl
theorem R16.drop {l : List Int} {n : Int} (h : R16 l n) (q : Nat) (hq : q ≤ l.length) : R16 (l.drop q) (n / 65536 ^ q) := by
 have e := Ma.vb_append 65536 (l.take q) (l.drop q)
 rw [List.take_append_drop, List.length_take, Nat.min_eq_left hq, h.val] at e
 have h1 := Ma.vb_lt (show (0 : Int) < 65536 by omega) (h.dg.take q)
 have h2 := Ma.vb_nonneg (show (0 : Int) < 65536 by omega) (h.dg.take q)
 rw [List.length_take, Nat.min_eq_left hq] at h1
 have hv : n / 65536 ^ q = Ma.vb 65536 (l.drop q) := by rw [e, Int.add_mul_ediv_left _ _ (by omega), Int.ediv_eq_zero_of_lt h2 h1, Int.zero_add]
 refine ⟨h.dg.drop q, ?_, hv.symm⟩
 have ht : ∀ (q : Nat) (l : List Int), Ma.Tr l → Ma.Tr (l.drop q) := by
  intro q
  induction q with
  | zero => intro l h; simpa using h
  | succ q ih =>
   intro l h
   cases l with
   | nil => simpa using h
   | cons x l => simpa using ih l h.2
 exact ht q l h.tr
theorem rv_low {l : List Int} {n : Int} (h : R16 l n) (q : Nat) (hq : q ≤ l.length) : rv (l.take q) = n % 65536 ^ q := by
 have e := Ma.vb_append 65536 (l.take q) (l.drop q)
 rw [List.take_append_drop, List.length_take, Nat.min_eq_left hq, h.val] at e
 have h1 := Ma.vb_lt (show (0 : Int) < 65536 by omega) (h.dg.take q)
 have h2 := Ma.vb_nonneg (show (0 : Int) < 65536 by omega) (h.dg.take q)
 rw [List.length_take, Nat.min_eq_left hq] at h1
 rw [e, Int.add_mul_emod_self_left, Int.emod_eq_of_lt h2 h1]
theorem mod_split {n : Int} (hn : 0 ≤ n) (a b : Int) (ha : 0 < a) (hb : 0 < b) : ¬ n % (a * b) = 0 ↔ ¬ n % a = 0 ∨ ¬ n / a % b = 0 := by
 have e1 := Int.emod_add_mul_ediv n a
 have e2 := Int.emod_add_mul_ediv (n / a) b
 have h1 := Int.emod_nonneg n (show a ≠ 0 by omega)
 have h2 := Int.emod_lt_of_pos n ha
 have h3 := Int.emod_nonneg (n / a) (show b ≠ 0 by omega)
 have h4 := Int.emod_lt_of_pos (n / a) hb
 have e3 : n = (n % a + a * (n / a % b)) + a * b * (n / a / b) := by
  rw [Int.mul_assoc, Int.add_assoc, ← Int.mul_add, e2, e1]
 have h5 : 0 ≤ a * (n / a % b) := Int.mul_nonneg (by omega) h3
 have h6 : a * (n / a % b + 1) ≤ a * b := Int.mul_le_mul_of_nonneg_left (by omega) (by omega)
 rw [Int.mul_add, Int.mul_one] at h6
 have e4 : n % (a * b) = n % a + a * (n / a % b) := by
  have := congrArg (· % (a * b)) e3
  simp only [Int.add_mul_emod_self_left] at this
  rw [this, Int.emod_eq_of_lt (by omega) (by omega)]
 rw [e4]
 constructor
 ·intro h
  rcases Int.lt_or_eq_of_le h1 with h7 | h7
  ·exact .inl (by omega)
  ·refine .inr fun h8 => h ?_
   rw [← h7, h8, Int.mul_zero, Int.add_zero]
 ·rintro (h | h) h7
  ·omega
  ·have : 0 < a * (n / a % b) := Int.mul_pos ha (by omega)
   omega
theorem leftR (v : Value) (l : List Int) (n : Int) (hR : R16 l n) (hL : l.length ≤ 1048576) (N : Nat) (hN : N ≤ 1048576) (w : World) (hv : IV w v (ints .i64 l)) :
  CallsV P 41 [v, .int .i64 (N : Int)] w fun r w' => ∃ v ls, r = v ∧ R16 ls (n * 2 ^ N) ∧ Grow w w' [As.ri 3 .i64 v ls] := by
 refine enterW Tryz.func41 rfl Tryz.ntmps41 rfl ?_
 have hw0 := St.start w
 refine c_seq (c_region (l_assign rfl rfl rfl (l_nil (e_then ?_))))
 refine c_keep [0, 1] (.cons rfl (.cons rfl .nil)) ?_
 refine c_seq (c_seq (c_region (l_move rfl rfl rfl ?_)))
 refine v_leni rfl rfl Tryz.underlying32 rfl (by first | exact hw0.iarg hv | assumption) ?_
 refine l_eql rfl rfl rfl rfl ?_
 refine l_nil (e_then ?_)
 refine c_keep [0, 1, 8] (.cons rfl (.cons rfl (.cons rfl .nil))) ?_
 first | refine c_cond rfl (fun hc0 => ?_) (fun hc0 => ?_) | refine c_condb rfl (fun hc0 => ?_) (fun hc0 => ?_)
 ·skip
  refine c_seq (c_region (l_assign rfl rfl rfl (l_nil (e_then ?_))))
  refine c_keep [4] (.cons rfl .nil) ?_
  refine c_ret ?_
  refine e_then_ret ?_
  refine e_done1 Tryz.results41 rfl ?_
  refine ⟨_, rfl, ?_⟩
  obtain rfl : l = [] := List.eq_nil_of_length_eq_zero (by omega)
  have hn : n = 0 := hR.val.symm
  subst hn
  exact ⟨_, [], rfl, by rw [Int.zero_mul]; exact Ma.Cn.nil, (hw0.nil 3).grows⟩
 ·skip
  refine c_skip (e_then ?_)
  refine c_keep [0, 1] (.cons rfl (.cons rfl .nil)) ?_
  refine c_seq (c_region (l_move rfl rfl rfl ?_))
  refine l_quo rfl rfl rfl rfl (by omega) (q_i64 (by omega)) ?_
  refine v_make (m := N / 16) (c := N / 16) hw0 rfl rfl Tryz.underlying32 ti3 rfl rfl rfl (by omega) (by omega) (by omega) (by omega) (by omega) (fun v3_2 w1 hw1 => ?_)
  try clear hw0
  refine l_assign rfl rfl rfl (l_nil (e_then ?_))
  refine c_keep [0, 1, 5] (.cons rfl (.cons rfl (.cons rfl .nil))) ?_
  refine c_seq (c_region (l_move rfl rfl rfl (l_move rfl rfl rfl (l_move rfl rfl rfl ?_))))
  refine l_rem rfl rfl rfl rfl (by omega) (r_pos (by omega)) ?_
  have hpw := Ma.pow_pos (show (0 : Int) < 2 by omega) (N % 16)
  have hpm := Ma.pow_mono (show (1 : Int) ≤ 2 by omega) (show N % 16 ≤ 15 by omega)
  have e15 : (2 : Int) ^ 15 = 32768 := (by decide)
  have hRt : R16 [2 ^ (N % 16)] (2 ^ (N % 16)) := ⟨fun x hx => by rw [List.mem_singleton.1 hx]; omega, ⟨fun _ => by omega, trivial⟩, by simp [Ma.vb]⟩
  refine l_turn (s := 15) (v' := .int .i64 ((N % 16 : Nat) : Int)) rfl (by refine congrArg (Value.int _) ?_; omega) ?_
  refine l_callp rfl rfl Tryz.func54 rfl rfl (.cons rfl .nil) (twoR (N % 16) (by omega) _) ?_
  refine v_lit hw1 rfl rfl Tryz.underlying32 ti3 rfl (.cons rfl (by first | rfl | assumption) .nil) rfl rfl rfl (fun b4_5 w2 hw2 => ?_)
  try clear hw1
  refine l_call rfl rfl Tryz.func52 rfl rfl (.cons rfl (.cons rfl .nil)) (prodR _ _ _ _ _ _ hR hRt (by omega) (by simp) w2 (hw2.iarg hv) (hw2.ibl mem0)) ?_
  rintro vp w3 ⟨_, lp, rfl, hRp, hG⟩
  have hw3 := hG _ _ _ _ hw2
  try clear hG hw2
  simp only [List.cons_append, List.nil_append] at hw3
  have hw4 := St.front2 hw3
  try clear hw3
  have hlp : lp.length ≤ l.length + 1 := by
   have h1 := Ma.vb_lt (show (0 : Int) < 65536 by omega) hR.dg
   rw [hR.val] at h1
   rcases Nat.lt_or_ge (l.length + 1) lp.length with h | h
   ·have h2 := Ma.Tr.pos (show (0 : Int) < 65536 by omega) hRp.dg hRp.tr (by intro e; subst e; simp at h)
    rw [hRp.val] at h2
    have h3 := Ma.pow_mono (show (1 : Int) ≤ 65536 by omega) (show l.length + 1 ≤ lp.length - 1 by omega)
    rw [Int.pow_succ] at h3
    have h4 : n * 2 ^ (N % 16) ≤ n * 65536 := Int.mul_le_mul_of_nonneg_left (by omega) (hR.nonneg (by omega))
    omega
   ·exact h
  refine v_append0 hw4 rfl rfl Tryz.underlying32 ti3 rfl rfl rfl (by first | exact hw4.io mem0 | exact hw4.io mem1 | exact hw4.ibl mem2 | exact hw4.iarg hv | assumption) (by first | exact ints_one _ _ | exact bys_one _ | simp [Value.oneCell']) (by first | (simp; done) | (simp; omega)) (by first | (simp; done) | (simp; omega)) (fun v4_7 w5 hw5 => ?_)
  try clear hw4
  refine l_assign rfl rfl rfl (l_nil (e_then ?_))
  refine c_keep [4] (.cons rfl .nil) ?_
  refine c_ret ?_
  refine e_done1 Tryz.results41 rfl ?_
  refine ⟨_, rfl, ?_⟩
  have hw6 := St.del (.tail (.tail .head)) hw5
  try clear hw5
  have hw7 := St.del (.tail .head) hw6
  try clear hw6
  have hn0 : 0 < n := by
   rcases Int.lt_or_eq_of_le (hR.nonneg (by omega)) with h | h
   ·exact h
   ·have := (hR.nil_iff (by omega)).2 h.symm
    subst this
    simp at hc0
  have hlp0 : lp ≠ [] := fun h => by
   have := (hRp.nil_iff (by omega)).1 h
   have := Int.mul_pos hn0 hpw
   omega
  have hdz : Ma.Dg 65536 (List.replicate (N / 16) 0 ++ lp) := (Ma.Dg.replicate (by omega) _).append hRp.dg
  refine ⟨_, List.replicate (N / 16) 0 ++ lp, rfl, ⟨hdz, Ma.Tr.of_ge (show (1 : Int) < 65536 by omega) hdz fun _ => ?_, ?_⟩, ?_⟩
  ·have h1 := Ma.Tr.pos (show (0 : Int) < 65536 by omega) hRp.dg hRp.tr hlp0
   have h2 : 0 < lp.length := List.length_pos_iff.2 hlp0
   show _ ≤ rv _
   rw [rv_zeros, List.length_append, List.length_replicate, show N / 16 + lp.length - 1 = N / 16 + (lp.length - 1) from by omega, Int.pow_add]
   exact Int.mul_le_mul_of_nonneg_left h1 (Int.le_of_lt (Ma.pow_pos (by omega) _))
  ·show rv _ = _
   rw [rv_zeros, show rv lp = n * 2 ^ (N % 16) from hRp.val, p16, Int.mul_left_comm, ← Int.pow_add, show 16 * (N / 16) + N % 16 = N from Nat.div_add_mod N 16]
  ·exact (hw7.cast (show _ = [As.ro 3 _ (ints .i64 (List.replicate (N / 16) 0 ++ lp))] from by simp [ints])).grows
theorem lost_succ {l : List Int} (hD : D16 l) (k : Nat) : (¬ rv (l.take k) = 0 ∨ ¬ l.getD k 0 = 0) ↔ ¬ rv (l.take (k + 1)) = 0 := by
 have h1 := Ma.vb_take_succ 65536 l k
 have h2 := Ma.vb_nonneg (show (0 : Int) < 65536 by omega) (hD.dg.take k)
 have h3 := getD_d hD k
 have hp := Ma.pow_pos (show (0 : Int) < 65536 by omega) k
 have h4 : 0 ≤ 65536 ^ k * l.getD k 0 := Int.mul_nonneg (by omega) h3.1
 show _ ↔ ¬ Ma.vb _ _ = 0
 rw [h1]
 constructor
 ·rintro (h | h) h5
  ·exact h (by show Ma.vb _ _ = 0; omega)
  ·have := Int.mul_pos hp (show 0 < l.getD k 0 by omega)
   omega
 ·intro h
  rcases Int.lt_or_eq_of_le h3.1 with h5 | h5
  ·exact .inr (by omega)
  ·refine .inl fun h6 => h ?_
   rw [← h5, Int.mul_zero, Int.add_zero]
   exact h6
theorem rightR (v : Value) (l : List Int) (n : Int) (hR : R16 l n) (hL : l.length ≤ 1048576) (N : Nat) (hN : N ≤ 9223372036854775807) (w : World) (hv : IV w v (ints .i64 l)) :
  CallsV P 42 [v, .int .i64 (N : Int)] w fun r w' => ∃ v ls, r = .tuple #[v, .bool (decide (¬ n % 2 ^ N = 0))] ∧ R16 ls (n / 2 ^ N) ∧ Grow w w' [As.ri 3 .i64 v ls] := by
 refine enterW Tryz.func42 rfl Tryz.ntmps42 rfl ?_
 have hw0 := St.start w
 obtain ⟨A, c, rfl, hc, hs⟩ := hv
 have hv : IV w (.slice A (ints .i64 l).length c) (ints .i64 l) := ⟨A, c, rfl, hc, hs⟩
 have hD := hR.d
 have hn0 : 0 ≤ n := hR.nonneg (by omega)
 have hbl := hR.blen
 refine c_seq (c_region (l_assign rfl rfl rfl (l_assign rfl rfl rfl (l_nil (e_then ?_)))))
 refine c_keep [0, 1] (.cons rfl (.cons rfl .nil)) ?_
 refine c_seq (c_seq (c_region (l_move rfl rfl rfl (l_move rfl rfl rfl ?_))))
 refine l_callp rfl rfl Tryz.func39 rfl rfl (.cons rfl .nil) (bitsR _ l n hR (by omega) w (hw0.iarg hv)) ?_
 refine l_geq rfl rfl rfl rfl ?_
 refine l_nil (e_then ?_)
 refine c_keep [0, 1, 13] (.cons rfl (.cons rfl (.cons rfl .nil))) ?_
 first | refine c_cond rfl (fun hc0 => ?_) (fun hc0 => ?_) | refine c_condb rfl (fun hc0 => ?_) (fun hc0 => ?_)
 ·skip
  refine c_seq (c_region (l_move rfl rfl rfl ?_))
  refine v_leni rfl rfl Tryz.underlying32 rfl (by first | exact hw0.iarg hv | assumption) ?_
  refine l_gtr rfl rfl rfl rfl ?_
  refine l_assign rfl rfl rfl (l_assign rfl rfl rfl (l_nil (e_then ?_)))
  refine c_keep [4, 5] (.cons rfl (.cons rfl .nil)) ?_
  refine c_ret ?_
  refine e_then_ret ?_
  refine e_done2 Tryz.results42 rfl rfl ?_
  refine ⟨_, rfl, ?_⟩
  have hlt := (Ma.blen_le_iff hn0 N).1 hc0
  have hz : n = 0 ↔ l.length = 0 := ⟨fun h => by rw [(hR.nil_iff (by omega)).2 h]; rfl, fun h => (hR.nil_iff (by omega)).1 (List.eq_nil_of_length_eq_zero h)⟩
  refine ⟨.slice none 0 0, [], ?_, by rw [Int.ediv_eq_zero_of_lt hn0 hlt]; exact Ma.Cn.nil, (hw0.nil 3).grows⟩
  rw [Int.emod_eq_of_lt hn0 hlt, show decide (0 < (l.length : Int)) = decide (¬ n = 0) from decide_eq_decide.2 (by omega)]
 ·skip
  refine c_skip (e_then ?_)
  refine c_keep [0, 1] (.cons rfl (.cons rfl .nil)) ?_
  refine c_seq (c_region ?_)
  have hq : N / 16 ≤ l.length := by
   have : (N : Int) < Ma.blen n := by omega
   omega
  have hqn : (N : Int) < 16777216 := by omega
  refine l_assign rfl rfl rfl (l_nil (e_then (c_seq (c_seq (c_region ?_)))))
  refine l_assign rfl rfl rfl (l_nil (e_then (c_block ?_)))
  refine c_loopk (ι := Nat) (fun (k : Nat) => N / 16 - k) (fun (k : Nat) (w' : World) => St w w.heap.size None' ([]) w' ∧ k ≤ N / 16) (fun (k : Nat) => [(6, .bool (decide (¬ rv (l.take k) = 0))), (7, .int .i64 (k : Int))]) [0, 1] (0) ?_ (.cons rfl (.cons rfl .nil)) ?_ ?_
  ·exact ⟨hw0, by omega⟩
  ·exact (.cons rfl (by exact congrArg Value.bool (by simp [Ma.vb])) (.cons rfl (by first | rfl | (refine congrArg (Value.int _) ?_; omega)) .nil))
  rintro k w1 ⟨hw1, hk⟩
  show RunC P _ _ _ (_ :: _) _
  refine c_seq (c_seq (c_region (l_move rfl rfl rfl (l_move rfl rfl rfl ?_))))
  refine l_quo rfl rfl rfl rfl (by omega) (q_i64 (by omega)) ?_
  refine l_lss rfl rfl rfl rfl ?_
  refine l_nil (e_then ?_)
  refine c_keep [0, 1, 6, 7, 20] (.cons rfl (.cons rfl (.cons rfl (.cons rfl (.cons rfl .nil))))) ?_
  first | refine c_cond rfl (fun hc1 => ?_) (fun hc1 => ?_) | refine c_condb rfl (fun hc1 => ?_) (fun hc1 => ?_)
  ·skip
   refine c_skip (e_then ?_)
   refine c_keep [0, 1, 6, 7] (.cons rfl (.cons rfl (.cons rfl (.cons rfl .nil)))) ?_
   refine c_seq (c_block (c_region (l_move rfl rfl rfl (l_move rfl rfl rfl ?_))))
   apply l_or 5 [0, 1, 6, 7] rfl rfl (.cons rfl (.cons rfl (.cons rfl (.cons rfl (.cons rfl .nil))))) rfl rfl (fun _ => rfl) rfl rfl rfl
   ·intro hg7_2
    refine l_move rfl rfl rfl (l_move rfl rfl rfl ?_)
    refine v_getr rfl rfl rfl rfl Tryz.underlying32 tz3 Tryz.underlying3 rfl rfl (by first | exact hw1.iarg hv | assumption) (by assumption) rfl rfl (by first | omega | (simp; done) | (simp; omega)) (fun hb7_4 => ?_)
    refine l_neq rfl rfl rfl rfl ?_
    refine l_nil ?_
    exact e_stays rfl (.cons rfl (congrArg Value.bool (decide_eq_false hg7_2).symm) (.cons rfl rfl (.cons rfl rfl (.cons rfl rfl (.cons rfl rfl .nil)))))
   refine l_assign rfl rfl rfl (l_nil ?_)
   refine e_blk ?_
   refine e_then ?_
   refine c_keep [0, 1, 6, 7] (.cons rfl (.cons rfl (.cons rfl (.cons rfl .nil)))) ?_
   refine c_region (l_move rfl rfl rfl ?_)
   refine l_add rfl rfl rfl rfl (w_i64 (by omega)) ?_
   refine l_assign rfl rfl rfl (l_nil ?_)
   refine e_againk (i := (k)) (k + 1) ?_ ?_ (.cons rfl (.cons rfl .nil)) ?_
   ·first | omega | (simp; omega)
   ·exact ⟨hw1, by omega⟩
   ·exact (.cons rfl (by exact congrArg Value.bool (decide_eq_decide.2 (lost_succ hD k))) (.cons rfl (by first | rfl | (refine congrArg (Value.int _) ?_; omega)) .nil))
  ·skip
   refine c_exit ?_
   refine e_then_exit ?_
   refine e_then_exit ?_
   refine e_blk_exit ?_
   refine e_then ?_
   refine c_keep [0, 1, 6] (.cons rfl (.cons rfl (.cons rfl .nil))) ?_
   refine c_seq ?_
   have hw2 := hw1.drewn
   try clear hw1
   have h8 : IV w (.slice (cutA A (N / 16) c 1) (l.length - N / 16) (c - N / 16)) (ints .i64 (l.drop (N / 16))) := by
    have := IV.cut (c := c) (l := N / 16) (k := l.length) (m := c) hs hq (by simp) (by simpa using hc)
    rw [List.take_of_length_le (by simp), ← List.map_drop] at this
    exact this
   have hpw := Ma.pow_pos (show (0 : Int) < 2 by omega) (N % 16)
   have hpm := Ma.pow_mono (show (1 : Int) ≤ 2 by omega) (show N % 16 ≤ 15 by omega)
   have e15 : (2 : Int) ^ 15 = 32768 := (by decide)
   refine c_any (n := 13) [false, false, false, false, false, false, false, false, false, false, false, false, false] (fun wS => True) (by kernel_rfl) rfl rfl ?_
   apply a_take (L' := [true, false, false, false, false, false, false, false, false, false, false, false, false]) 0 rfl (by kernel_rfl) (by kernel_rfl) (by kernel_rfl) rfl rfl rfl rfl rfl (trivial)
   ·intro wS sS
    refine l_move rfl rfl rfl (l_nil ?_)
    exact e_got rfl
   apply a_take (L' := [true, true, false, false, false, false, false, false, false, false, false, false, false]) 1 rfl (by kernel_rfl) (by kernel_rfl) (by kernel_rfl) rfl rfl rfl rfl rfl (trivial)
   ·intro wS sS
    refine l_move rfl rfl rfl (l_nil ?_)
    exact e_got rfl
   apply a_take (L' := [true, true, true, false, false, false, false, false, false, false, false, false, false]) 2 rfl (by kernel_rfl) (by kernel_rfl) (by kernel_rfl) rfl rfl rfl rfl rfl (trivial)
   ·intro wS sS
    refine l_quo rfl rfl rfl rfl (by omega) (q_i64 (by omega)) ?_
    refine l_nil ?_
    exact e_got rfl
   apply a_take (L' := [true, true, true, true, false, false, false, false, false, false, false, false, false]) 3 rfl (by kernel_rfl) (by kernel_rfl) (by kernel_rfl) rfl rfl rfl rfl rfl (trivial)
   ·intro wS sS
    refine l_slice (size := 1) (l := N / 16) (h := l.length) (mm := c) rfl rfl Tryz.underlying32 tz3 rfl rfl rfl rfl (show (N : Int) / 16 = ((N / 16 : Nat) : Int) from by omega) (by simp) rfl (by simp) (by omega) (by simpa using hc) (Nat.le_refl _) ?_
    refine l_nil ?_
    exact e_got rfl
   apply a_take (L' := [true, true, true, true, true, false, false, false, false, false, false, false, false]) 4 rfl (by kernel_rfl) (by kernel_rfl) (by kernel_rfl) rfl rfl rfl rfl rfl (trivial)
   ·intro wS sS
    refine l_move rfl rfl rfl (l_nil ?_)
    exact e_got rfl
   apply a_take (L' := [true, true, true, true, true, true, false, false, false, false, false, false, false]) 5 rfl (by kernel_rfl) (by kernel_rfl) (by kernel_rfl) rfl rfl rfl rfl rfl (trivial)
   ·intro wS sS
    refine l_rem rfl rfl rfl rfl (by omega) (r_pos (by omega)) ?_
    refine l_nil ?_
    exact e_got rfl
   refine a_one (L' := [true, true, true, true, true, true, true, false, false, false, false, false, false]) 6 (by kernel_rfl) rfl rfl ?_
   refine l_turn (s := 37) (v' := .int .i64 ((N % 16 : Nat) : Int)) rfl (by refine congrArg (Value.int _) ?_; omega) ?_
   refine l_callp rfl rfl Tryz.func54 rfl rfl (.cons rfl .nil) (twoR (N % 16) (by omega) _) ?_
   refine l_nil ?_
   refine e_any (trivial) ?_
   refine a_one (L' := [true, true, true, true, true, true, true, true, false, false, false, false, false]) 7 (by kernel_rfl) rfl rfl ?_
   refine l_call rfl rfl Tryz.func55 rfl rfl (.cons rfl (.cons rfl .nil)) (smallR _ (l.drop (N / 16)) _ _ (hR.drop (N / 16) hq) ⟨by omega, by omega⟩ (by rw [List.length_drop]; omega) w1.drew (hw2.iarg h8)) ?_
   rintro _ w3 ⟨vq, lq, rfl, hRq, hG⟩
   have hw3 := hG _ _ _ _ hw2
   try clear hG hw2
   simp only [List.cons_append, List.nil_append] at hw3
   refine l_nil ?_
   refine e_any (trivial) ?_
   apply a_take (L' := [true, true, true, true, true, true, true, true, true, false, false, false, false]) 8 rfl (by kernel_rfl) (by kernel_rfl) (by kernel_rfl) rfl rfl rfl rfl rfl (trivial)
   ·intro wS sS
    refine l_move rfl rfl rfl (l_nil ?_)
    exact e_got rfl
   apply a_take (L' := [true, true, true, true, true, true, true, true, true, true, false, false, false]) 9 rfl (by kernel_rfl) (by kernel_rfl) (by kernel_rfl) rfl rfl rfl rfl rfl (trivial)
   ·intro wS sS
    refine l_extract rfl rfl rfl rfl (l_nil ?_)
    exact e_got rfl
   apply a_take (L' := [true, true, true, true, true, true, true, true, true, true, true, false, false]) 10 rfl (by kernel_rfl) (by kernel_rfl) (by kernel_rfl) rfl rfl rfl rfl rfl (trivial)
   ·intro wS sS
    refine l_extract rfl rfl rfl rfl (l_nil ?_)
    exact e_got rfl
   apply a_take (L' := [true, true, true, true, true, true, true, true, true, true, true, true, false]) 11 rfl (by kernel_rfl) (by kernel_rfl) (by kernel_rfl) rfl rfl rfl rfl rfl (trivial)
   ·intro wS sS
    refine l_assign rfl rfl rfl (l_nil ?_)
    exact e_got rfl
   apply a_take (L' := [true, true, true, true, true, true, true, true, true, true, true, true, true]) 12 rfl (by kernel_rfl) (by kernel_rfl) (by kernel_rfl) rfl rfl rfl rfl rfl (trivial)
   ·intro wS sS
    refine l_assign rfl rfl rfl (l_nil ?_)
    exact e_got rfl
   refine a_done (by kernel_rfl) ?_
   refine e_then ?_
   refine c_keep [6, 8, 9] (.cons rfl (.cons rfl (.cons rfl .nil))) ?_
   refine c_seq (c_region (l_move rfl rfl rfl (l_move rfl rfl rfl (l_move rfl rfl rfl ?_))))
   apply l_or 2 [42] rfl rfl (.cons rfl (.cons rfl .nil)) rfl rfl (fun _ => rfl) rfl rfl rfl
   ·intro hg9_3
    refine l_move rfl rfl rfl ?_
    refine l_neq rfl rfl rfl rfl ?_
    refine l_nil ?_
    exact e_stays rfl (.cons rfl (congrArg Value.bool (decide_eq_false hg9_3).symm) (.cons rfl rfl .nil))
   refine l_assign rfl rfl rfl (l_assign rfl rfl rfl (l_nil (e_then ?_)))
   refine c_keep [4, 5] (.cons rfl (.cons rfl .nil)) ?_
   refine c_ret ?_
   refine e_done2 Tryz.results42 rfl rfl ?_
   refine ⟨_, rfl, ?_⟩
   obtain rfl : k = N / 16 := by omega
   have hBp := Ma.pow_pos (show (0 : Int) < 65536 by omega) (N / 16)
   have eN : (65536 : Int) ^ (N / 16) * 2 ^ (N % 16) = 2 ^ N := by rw [p16, ← Int.pow_add, show 16 * (N / 16) + N % 16 = N from Nat.div_add_mod N 16]
   have hms := mod_split hn0 (65536 ^ (N / 16)) (2 ^ (N % 16)) hBp hpw
   rw [eN] at hms
   refine ⟨_, _, ?_, ?_, hw3.grows⟩
   ·rw [rv_low hR _ hq, show decide (¬ n % 65536 ^ (N / 16) = 0 ∨ ¬ n / 65536 ^ (N / 16) % 2 ^ (N % 16) = 0) = decide (¬ n % 2 ^ N = 0) from decide_eq_decide.2 hms.symm]
    rfl
   ·rw [← eN, ← Int.ediv_ediv_of_nonneg (Int.le_of_lt hBp)]
    exact hRq
end Go.Proofs.YtggdkplphfofkaaGreat.W
