/- walks of the document's scanner: begins, check, exponent, all, Number, Value, Scan -/
import Derived.Test.YtjkaahnadaapoaaSf
set_option linter.unusedVariables false
set_option linter.unusedSimpArgs false
set_option maxRecDepth 10000
namespace Go.Proofs.Ytjkaahnadaapoaa.W
open Go.Vc Go.RowKit

theorem getD_mem {l : L8} {k : Nat} (h : k < l.length) : l.getD k 0 ∈ l := by
  have e : l.getD k 0 = l[k] := by simp [List.getD, h]
  rw [e]
  exact List.getElem_mem h
theorem ext_mem {i : Nat} (h : i < 12) : exts.getD i [] ∈ exts := by
  have key : ∀ k : Fin 12, exts.getD k.val [] ∈ exts := by decide
  exact key ⟨i, h⟩

theorem begins8 (s : L8) (hL : s.length ≤ 1099511627000) (w : World) :
    CallsV P 48 [str s] w fun r w' => r = .bool (decide (¬ go 0 s = 19)) ∧ Grow w w' [] := by
  refine enterW Try.func48 rfl Try.ntmps48 rfl ?_
  have hw0 := St.start w
  refine c_seq ?_
  refine c_region ?_
  refine l_assign rfl rfl rfl ?_
  refine l_nil ?_
  refine e_then ?_
  refine c_keep [0] (.cons rfl .nil) ?_
  refine c_seq ?_
  refine c_region ?_
  refine v_lit hw0 rfl rfl Try.underlying106 ti9 rfl (.cons rfl (by first | rfl | assumption) (.cons rfl (by first | rfl | assumption) (.cons rfl (by first | rfl | assumption) (.cons rfl (by first | rfl | assumption) (.cons rfl (by first | rfl | assumption) (.cons rfl (by first | rfl | assumption) (.cons rfl (by first | rfl | assumption) (.cons rfl (by first | rfl | assumption) (.cons rfl (by first | rfl | assumption) (.cons rfl (by first | rfl | assumption) (.cons rfl (by first | rfl | assumption) (.cons rfl (by first | rfl | assumption) .nil)))))))))))) rfl rfl rfl (fun b1_0 w1 hw1 => ?_)
  try clear hw0
  refine l_assign rfl rfl rfl ?_
  refine l_nil ?_
  refine e_then ?_
  refine c_keep [0, 3] (.cons rfl (.cons rfl .nil)) ?_
  refine c_seq ?_
  refine c_seq ?_
  refine c_region ?_
  refine l_assign rfl rfl rfl ?_
  refine l_nil ?_
  refine e_then ?_
  refine c_block ?_
  refine c_loopk (ι := Nat) (fun (i : Nat) => 12 - i) (fun (i : Nat) (w' : World) => St w w.heap.size None' ([As.blk b1_0 9 (exts.map str)]) w' ∧ i ≤ 12 ∧ ∀ j, j < i → acc (go 0 (s ++ exts.getD j [])) = false) (fun (i : Nat) => [(4, .int .i64 (i : Int))]) [0, 3] (0) ?_ (.cons rfl (.cons rfl .nil)) ?_ ?_
  · exact ⟨hw1, by omega, fun j hj => by omega⟩
  · exact (.cons rfl (by first | rfl | (refine congrArg (Value.int _) ?_; omega)) .nil)
  rintro i w2 ⟨hw2, hi, hno⟩
  show RunC P _ _ _ (_ :: _) _
  refine c_seq ?_
  refine c_seq ?_
  refine c_region ?_
  refine l_move rfl rfl rfl ?_
  refine l_move rfl rfl rfl ?_
  refine v_len rfl rfl Try.underlying106 rfl (by first | exact hw2.ibl mem0 | assumption) ?_
  refine l_lss rfl rfl rfl rfl ?_
  refine l_nil ?_
  refine e_then ?_
  refine c_keep [0, 3, 4, 11] (.cons rfl (.cons rfl (.cons rfl (.cons rfl .nil)))) ?_
  first | refine c_cond rfl (fun hc0 => ?_) (fun hc0 => ?_) | refine c_condb rfl (fun hc0 => ?_) (fun hc0 => ?_)
  · skip
    refine c_skip ?_
    refine e_then ?_
    refine c_keep [0, 3, 4] (.cons rfl (.cons rfl (.cons rfl .nil))) ?_
    refine c_seq ?_
    refine c_block ?_
    refine c_seq ?_
    refine c_region ?_
    have h12e : (exts.map str).length = 12 := by simp [exts]
    have hi1 : i < 12 := by omega
    have hel := ext_len (i := i)
    refine l_move rfl rfl rfl ?_
    refine l_move rfl rfl rfl ?_
    refine l_move rfl rfl rfl ?_
    refine v_get rfl rfl rfl rfl Try.underlying106 tz9 Try.underlying9 rfl rfl rfl (by first | exact hw2.ibl mem0 | assumption) (by first | omega | (simp; omega)) (ext_at hi1) ?_ rfl
    refine l_adds (l := exts.getD i []) rfl rfl rfl rfl (by omega) ?_
    refine l_call rfl rfl Try.func47 rfl rfl (.cons rfl .nil) (cut8 (s ++ exts.getD i []) (by rw [List.length_append]; omega) w2) ?_
    rintro _ w3 ⟨ng, wd, W, F, en, E, ok, rfl, hR, hG⟩
    have hw3 := hG _ _ _ _ hw2
    try clear hG hw2
    simp only [List.cons_append, List.nil_append] at hw3
    refine l_move rfl rfl rfl ?_
    refine l_extract rfl rfl rfl rfl ?_
    refine l_extract rfl rfl rfl rfl ?_
    refine l_alloc hw3 ta69 rfl rfl (fun b5_10 w4 hw4 => ?_)
    try clear hw3
    refine l_store_blks hw4 .head (.zero (.zero (.zero (.zero (.zero (.zero .nil)))))) rfl tz69 rfl rfl (by first | (simp [Value.oneCell']; done) | (intro u hu; simp only [List.mem_cons, List.not_mem_nil, or_false] at hu; rcases hu with rfl | rfl | rfl | rfl | rfl | rfl <;> first | rfl | assumption)) (fun w5 hw5 => ?_)
    try clear hw4
    refine l_assign rfl rfl rfl ?_
    refine l_nil ?_
    refine e_then ?_
    refine c_keep [0, 3, 4, 6] (.cons rfl (.cons rfl (.cons rfl (.cons rfl .nil)))) ?_
    refine c_seq ?_
    refine c_region ?_
    refine l_move rfl rfl rfl ?_
    refine l_nil ?_
    refine e_then ?_
    refine c_keep [0, 3, 4, 24] (.cons rfl (.cons rfl (.cons rfl (.cons rfl .nil)))) ?_
    first | refine c_cond rfl (fun hc1 => ?_) (fun hc1 => ?_) | refine c_condb rfl (fun hc1 => ?_) (fun hc1 => ?_)
    · skip
      refine c_seq ?_
      refine c_region ?_
      refine l_assign rfl rfl rfl ?_
      refine l_nil ?_
      refine e_then ?_
      refine c_keep [2] (.cons rfl .nil) ?_
      refine c_ret ?_
      refine e_blk_ret ?_
      refine e_then_ret ?_
      refine e_then_ret ?_
      refine e_blk_ret ?_
      refine e_then_ret ?_
      refine e_done1 Try.results48 rfl ?_
      refine ⟨_, rfl, ?_⟩
      have hw6 := St.del (.tail .head) hw5
      try clear hw5
      have hw7 := St.del .head hw6
      try clear hw6
      have hy : exts.any (fun e => acc (go 0 (s ++ e))) = true := by
        rw [List.any_eq_true]
        exact ⟨exts.getD i [], ext_mem hi1, by rw [← hR.state]; exact hc1⟩
      exact ⟨by rw [← live_iff, hy], hw7.grows⟩
    · skip
      refine c_skip ?_
      refine e_blk ?_
      refine e_then ?_
      refine c_keep [0, 3, 4] (.cons rfl (.cons rfl (.cons rfl .nil))) ?_
      refine c_region ?_
      refine l_move rfl rfl rfl ?_
      refine l_add rfl rfl rfl rfl (w_i64 (by omega)) ?_
      refine l_assign rfl rfl rfl ?_
      refine l_nil ?_
      have hw8 := St.del .head hw5
      try clear hw5
      refine e_againk (i := (i)) (i + 1) ?_ ?_ (.cons rfl (.cons rfl .nil)) ?_
      · first | omega | (simp; omega)
      · refine ⟨hw8, by omega, fun j hj => ?_⟩
        rcases Nat.lt_or_ge j i with h | h
        · exact hno j h
        · obtain rfl : j = i := by omega
          rw [← hR.state]
          exact hc1
      · exact (.cons rfl (by first | rfl | (refine congrArg (Value.int _) ?_; omega)) .nil)
  · skip
    refine c_exit ?_
    refine e_then_exit ?_
    refine e_then_exit ?_
    refine e_blk_exit ?_
    refine e_then ?_
    refine c_keep [] .nil ?_
    refine c_seq ?_
    refine c_region ?_
    refine l_assign rfl rfl rfl ?_
    refine l_nil ?_
    refine e_then ?_
    refine c_ret ?_
    refine e_done1 Try.results48 rfl ?_
    refine ⟨_, rfl, ?_⟩
    have hw9 := St.del .head hw2
    try clear hw2
    have hi12 : i = 12 := by have h12 : (exts.map str).length = 12 := by simp [exts]
                             omega
    have hy : exts.any (fun e => acc (go 0 (s ++ e))) = false := by
      rw [List.any_eq_false]
      intro e he
      obtain ⟨j, hj, rfl⟩ := List.getElem_of_mem he
      have := hno j (by have : exts.length = 12 := rfl
                        omega)
      have e : exts.getD j [] = exts[j] := by simp [List.getD, hj]
      rw [e] at this
      rw [this]; decide
    exact ⟨by rw [← live_iff, hy], hw9.grows⟩
theorem check8 (v : Value) (t : L8) (hL : t.length ≤ 1099511627776) (w : World) (hv : IB w v t) :
    CallsV P 29 [v] w fun r w' => ∃ ng wd W F en E p e, r = .tuple #[.agg #[.bool ng, .int .i64 wd, str W, str F, .bool en, str E], .int .i64 p, .int .i64 e] ∧ ChkR t ng wd W F en E p e ∧ Grow w w' [] := by
  refine enterW Try.func29 rfl Try.ntmps29 rfl ?_
  have hw0 := St.start w
  refine c_seq ?_
  refine c_region ?_
  refine l_alloc hw0 ta69 rfl rfl (fun b0_0 w1 hw1 => ?_)
  try clear hw0
  refine l_assign rfl rfl rfl ?_
  refine l_assign rfl rfl rfl ?_
  refine l_nil ?_
  refine e_then ?_
  refine c_keep [0, 2] (.cons rfl (.cons rfl .nil)) ?_
  refine c_seq ?_
  refine c_seq ?_
  refine c_region ?_
  refine l_move rfl rfl rfl ?_
  refine v_lenb rfl rfl Try.underlying22 rfl (by first | exact hw1.ibl mem0 | exact hw1.iarg hv | assumption) ?_
  refine l_gtr rfl rfl rfl rfl ?_
  refine l_nil ?_
  refine e_then ?_
  refine c_keep [0, 2, 12] (.cons rfl (.cons rfl (.cons rfl .nil))) ?_
  first | refine c_cond rfl (fun hc0 => ?_) (fun hc0 => ?_) | refine c_condb rfl (fun hc0 => ?_) (fun hc0 => ?_)
  · skip
    refine c_seq ?_
    refine c_region ?_
    refine l_buildS rfl rfl pl69 ta69 .nil ?_
    refine l_store_blks hw1 .head (.zero (.zero (.zero (.zero (.zero (.zero .nil)))))) rfl tz69 rfl rfl (by first | (simp [Value.oneCell']; done) | (intro u hu; simp only [List.mem_cons, List.not_mem_nil, or_false] at hu; rcases hu with rfl | rfl | rfl | rfl | rfl | rfl <;> first | rfl | assumption)) (fun w2 hw2 => ?_)
    try clear hw1
    refine l_assign rfl rfl rfl ?_
    refine l_assign rfl rfl rfl ?_
    refine l_nil ?_
    refine e_then ?_
    refine c_keep [2, 3, 4] (.cons rfl (.cons rfl (.cons rfl .nil))) ?_
    refine c_ret ?_
    refine e_then_ret ?_
    refine e_doneN Try.results29 (.cell rfl (load_agg_run hw2 mem0 Try.underlying69 rfl tz69 (.take (.take (.take (.take (.take (.take .nil))))))) (.tmp rfl (.tmp rfl .nil))) rfl ?_
    refine ⟨_, rfl, ?_⟩
    have hw3 := St.del .head hw2
    try clear hw2
    exact ⟨_, _, _, _, _, _, _, _, rfl, .long (by omega), hw3.grows⟩
  · skip
    refine c_skip ?_
    refine e_then ?_
    refine c_keep [0, 2] (.cons rfl (.cons rfl .nil)) ?_
    refine c_seq ?_
    refine c_region ?_
    refine l_move rfl rfl rfl ?_
    refine v_tostr (l := t) rfl rfl Try.underlying22 Try.underlying5 Try.underlying9 rfl (by first | exact hw1.ibl mem0 | exact hw1.iarg hv | assumption) ?_
    refine l_call rfl rfl Try.func47 rfl rfl (.cons rfl .nil) (cut8 t hL w1) ?_
    rintro _ w4 ⟨ng, wd, W, F, en, E, ok, rfl, hR, hG⟩
    have hw4 := hG _ _ _ _ hw1
    try clear hG hw1
    simp only [List.cons_append, List.nil_append] at hw4
    refine l_move rfl rfl rfl ?_
    refine l_extract rfl rfl rfl rfl ?_
    refine l_extract rfl rfl rfl rfl ?_
    refine l_alloc hw4 ta69 rfl rfl (fun b3_6 w5 hw5 => ?_)
    try clear hw4
    refine l_store_blks hw5 .head (.zero (.zero (.zero (.zero (.zero (.zero .nil)))))) rfl tz69 rfl rfl (by first | (simp [Value.oneCell']; done) | (intro u hu; simp only [List.mem_cons, List.not_mem_nil, or_false] at hu; rcases hu with rfl | rfl | rfl | rfl | rfl | rfl <;> first | rfl | assumption)) (fun w6 hw6 => ?_)
    try clear hw5
    refine l_assign rfl rfl rfl ?_
    refine l_nil ?_
    refine e_then ?_
    refine c_keep [0, 2, 5, 6] (.cons rfl (.cons rfl (.cons rfl (.cons rfl .nil)))) ?_
    refine c_seq ?_
    refine c_seq ?_
    refine c_region ?_
    refine l_move rfl rfl rfl ?_
    refine l_nil ?_
    refine e_then ?_
    refine c_keep [0, 2, 5, 20] (.cons rfl (.cons rfl (.cons rfl (.cons rfl .nil)))) ?_
    first | refine c_cond rfl (fun hc1 => ?_) (fun hc1 => ?_) | refine c_condb rfl (fun hc1 => ?_) (fun hc1 => ?_)
    · skip
      refine c_seq ?_
      refine c_region ?_
      refine l_load_agg hw6 mem0 rfl rfl Try.underlying69 rfl tz69 rfl (.take (.take (.take (.take (.take (.take .nil)))))) ?_
      refine l_store_blks hw6 (.tail .head) (.zero (.zero (.zero (.zero (.zero (.zero .nil)))))) rfl tz69 rfl rfl (by first | (simp [Value.oneCell']; done) | (intro u hu; simp only [List.mem_cons, List.not_mem_nil, or_false] at hu; rcases hu with rfl | rfl | rfl | rfl | rfl | rfl <;> first | rfl | assumption)) (fun w7 hw7 => ?_)
      try clear hw6
      refine l_assign rfl rfl rfl ?_
      refine l_assign rfl rfl rfl ?_
      refine l_nil ?_
      refine e_then ?_
      refine c_keep [2, 3, 4] (.cons rfl (.cons rfl (.cons rfl .nil))) ?_
      refine c_ret ?_
      refine e_then_ret ?_
      refine e_doneN Try.results29 (.cell rfl (load_agg_run hw7 mem1 Try.underlying69 rfl tz69 (.take (.take (.take (.take (.take (.take .nil))))))) (.tmp rfl (.tmp rfl .nil))) rfl ?_
      refine ⟨_, rfl, ?_⟩
      have hw8 := St.del (.tail .head) hw7
      try clear hw7
      have hw9 := St.del .head hw8
      try clear hw8
      subst hc1
      exact ⟨_, _, _, _, _, _, _, _, rfl, .ok (by omega) hR, hw9.grows⟩
    · skip
      refine c_skip ?_
      refine e_then ?_
      refine c_keep [0, 2] (.cons rfl (.cons rfl .nil)) ?_
      refine c_seq ?_
      refine c_region ?_
      refine l_move rfl rfl rfl ?_
      refine v_lenb rfl rfl Try.underlying22 rfl (by first | exact hw6.ibl mem0 | exact hw6.ibl mem1 | exact hw6.iarg hv | assumption) ?_
      refine l_add rfl rfl rfl rfl (w_i64 (by omega)) ?_
      refine l_assign rfl rfl rfl ?_
      refine l_assign rfl rfl rfl ?_
      refine l_nil ?_
      refine e_then ?_
      refine c_keep [0, 2, 7, 8] (.cons rfl (.cons rfl (.cons rfl (.cons rfl .nil)))) ?_
      refine c_seq ?_
      refine c_block ?_
      refine c_loopk (ι := Nat × Nat) (fun (z0 : Nat × Nat) => match z0 with | ⟨lo, hi⟩ => hi - lo) (fun (z0 : Nat × Nat) (w' : World) => match z0 with | ⟨lo, hi⟩ => St w w.heap.size None' ([As.blk b0_0 69 [.bool false, .int .i64 0, str [], str [], .bool false, str []]]) w' ∧ lo < hi ∧ hi ≤ t.length + 1 ∧ ¬ st t lo = 19 ∧ (hi ≤ t.length → st t hi = 19)) (fun (z0 : Nat × Nat) => match z0 with | ⟨lo, hi⟩ => [(7, .int .i64 (lo : Int)), (8, .int .i64 (hi : Int))]) [0, 2] (0, t.length + 1) ?_ (.cons rfl (.cons rfl .nil)) ?_ ?_
      · exact ⟨St.del (.head) hw6, by omega, by omega, (by show ¬ (0 : Nat) = 19; omega), fun h => by omega⟩
      · exact (.cons rfl (by first | rfl | (refine congrArg (Value.int _) ?_; omega)) (.cons rfl (by first | rfl | (refine congrArg (Value.int _) ?_; omega)) .nil))
      rintro ⟨lo, hi⟩ w10 ⟨hw10, hlh, hhi, hlo, hh⟩
      show RunC P _ _ _ (_ :: _) _
      refine c_seq ?_
      refine c_seq ?_
      refine c_region ?_
      refine l_move rfl rfl rfl ?_
      refine l_move rfl rfl rfl ?_
      refine l_sub rfl rfl rfl rfl (w_i64 (by omega)) ?_
      refine l_gtr rfl rfl rfl rfl ?_
      refine l_nil ?_
      refine e_then ?_
      refine c_keep [0, 2, 7, 8, 28] (.cons rfl (.cons rfl (.cons rfl (.cons rfl (.cons rfl .nil))))) ?_
      first | refine c_cond rfl (fun hc2 => ?_) (fun hc2 => ?_) | refine c_condb rfl (fun hc2 => ?_) (fun hc2 => ?_)
      · skip
        refine c_skip ?_
        refine e_then ?_
        refine c_keep [0, 2, 7, 8] (.cons rfl (.cons rfl (.cons rfl (.cons rfl .nil)))) ?_
        refine c_block ?_
        refine c_seq ?_
        refine c_region ?_
        refine l_move rfl rfl rfl ?_
        refine l_move rfl rfl rfl ?_
        refine l_add rfl rfl rfl rfl (w_i64 (by omega)) ?_
        refine l_quo rfl rfl rfl rfl (by omega) (q_i64 (by omega)) ?_
        refine l_turn (s := 32) (v' := .int .i64 (((lo + hi) / 2 : Nat) : Int)) rfl (congrArg (Value.int .i64) (by omega)) ?_
        refine l_assign rfl rfl rfl ?_
        refine l_nil ?_
        refine e_then ?_
        refine c_keep [0, 2, 7, 8, 9] (.cons rfl (.cons rfl (.cons rfl (.cons rfl (.cons rfl .nil))))) ?_
        refine c_seq ?_
        refine c_region ?_
        refine l_move rfl rfl rfl ?_
        refine l_move rfl rfl rfl ?_
        refine v_cut (l := 0) (h := (lo + hi) / 2) rfl rfl Try.underlying22 tz5 rfl rfl rfl rfl (by first | exact hw10.ibl mem0 | exact hw10.iarg hv | assumption) (by first | rfl | (simp; done) | (simp; omega)) (by first | rfl | (simp; done) | (simp; omega)) (.inl rfl) (by simp) (by omega) (by first | omega | (simp; omega) | (simp; done)) (fun v9_2 h9_2 ho9_2 => ?_)
        rw [bys_cut, List.drop_zero] at h9_2
        refine v_tostr (l := t.take ((lo + hi) / 2)) rfl rfl Try.underlying22 Try.underlying5 Try.underlying9 rfl (by first | exact hw10.ibl mem0 | exact hw10.iarg hv | assumption) ?_
        have hstr : (t.take ((lo + hi) / 2)).length ≤ t.length := by rw [List.length_take]; omega
        refine l_call rfl rfl Try.func48 rfl rfl (.cons rfl .nil) (begins8 (t.take ((lo + hi) / 2)) (by omega) w10) ?_
        rintro _ w11 ⟨rfl, hG⟩
        have hw11 := hG _ _ _ _ hw10
        try clear hG hw10
        simp only [List.cons_append, List.nil_append] at hw11
        refine l_nil ?_
        refine e_then ?_
        refine c_keep [0, 2, 7, 8, 9, 37] (.cons rfl (.cons rfl (.cons rfl (.cons rfl (.cons rfl (.cons rfl .nil)))))) ?_
        first | refine c_cond rfl (fun hc3 => ?_) (fun hc3 => ?_) | refine c_condb rfl (fun hc3 => ?_) (fun hc3 => ?_)
        · skip
          refine c_region ?_
          refine l_move rfl rfl rfl ?_
          refine l_assign rfl rfl rfl ?_
          refine l_nil ?_
          refine e_blk ?_
          refine e_againk (i := (lo, hi)) ((lo + hi) / 2, hi) ?_ ?_ (.cons rfl (.cons rfl .nil)) ?_
          · first | omega | (simp; omega)
          · exact ⟨hw11, by omega, by omega, hc3, hh⟩
          · exact (.cons rfl (by first | rfl | (refine congrArg (Value.int _) ?_; omega)) (.cons rfl (by first | rfl | (refine congrArg (Value.int _) ?_; omega)) .nil))
        · skip
          refine c_region ?_
          refine l_move rfl rfl rfl ?_
          refine l_assign rfl rfl rfl ?_
          refine l_nil ?_
          refine e_blk ?_
          refine e_againk (i := (lo, hi)) (lo, (lo + hi) / 2) ?_ ?_ (.cons rfl (.cons rfl .nil)) ?_
          · first | omega | (simp; omega)
          · exact ⟨hw11, by omega, by omega, hlo, fun _ => Classical.not_not.1 hc3⟩
          · exact (.cons rfl (by first | rfl | (refine congrArg (Value.int _) ?_; omega)) (.cons rfl (by first | rfl | (refine congrArg (Value.int _) ?_; omega)) .nil))
      · skip
        refine c_exit ?_
        refine e_then_exit ?_
        refine e_then_exit ?_
        refine e_blk_exit ?_
        refine e_then ?_
        refine c_keep [2, 7] (.cons rfl (.cons rfl .nil)) ?_
        refine c_seq ?_
        refine c_region ?_
        refine l_buildS rfl rfl pl69 ta69 .nil ?_
        refine l_move rfl rfl rfl ?_
        refine l_store_blks hw10 .head (.zero (.zero (.zero (.zero (.zero (.zero .nil)))))) rfl tz69 rfl rfl (by first | (simp [Value.oneCell']; done) | (intro u hu; simp only [List.mem_cons, List.not_mem_nil, or_false] at hu; rcases hu with rfl | rfl | rfl | rfl | rfl | rfl <;> first | rfl | assumption)) (fun w12 hw12 => ?_)
        try clear hw10
        refine l_assign rfl rfl rfl ?_
        refine l_assign rfl rfl rfl ?_
        refine l_nil ?_
        refine e_then ?_
        refine c_keep [2, 3, 4] (.cons rfl (.cons rfl (.cons rfl .nil))) ?_
        refine c_ret ?_
        refine e_doneN Try.results29 (.cell rfl (load_agg_run hw12 mem0 Try.underlying69 rfl tz69 (.take (.take (.take (.take (.take (.take .nil))))))) (.tmp rfl (.tmp rfl .nil))) rfl ?_
        refine ⟨_, rfl, ?_⟩
        have hw13 := St.del .head hw12
        try clear hw12
        exact ⟨_, _, _, _, _, _, _, _, rfl, .form (RC.form (hc1 ▸ hR) (by omega) (by omega) hlo (fun h => st_mono (hh (by omega)) (by omega))), hw13.grows⟩
theorem expo8 (ng : Bool) (wd : Int) (W F : L8) (en : Bool) (E : L8) (hE : ∀ x ∈ E, isD x) (hL : E.length ≤ 1099511627776) (w : World) :
    CallsV P 32 [.agg #[.bool ng, .int .i64 wd, str W, str F, .bool en, str E]] w fun r w' => r = .int .i64 (expS en E) ∧ Grow w w' [] := by
  refine enterW Try.func32 rfl Try.ntmps32 rfl ?_
  have hw0 := St.start w
  refine c_seq ?_
  refine c_region ?_
  refine l_box hw0 rfl rfl rfl (fun b0_0 w1 hw1 => ?_)
  try clear hw0
  refine l_assign rfl rfl rfl ?_
  refine l_nil ?_
  refine e_then ?_
  refine c_keep [1] (.cons rfl .nil) ?_
  refine c_seq ?_
  refine c_region ?_
  refine l_assign rfl rfl rfl ?_
  refine l_nil ?_
  refine e_then ?_
  refine c_seq ?_
  refine c_seq ?_
  refine c_region ?_
  refine l_assign rfl rfl rfl ?_
  refine l_nil ?_
  refine e_then ?_
  refine c_block ?_
  refine c_loopk (ι := Nat × Int) (fun (z0 : Nat × Int) => match z0 with | ⟨k, x⟩ => E.length - k) (fun (z0 : Nat × Int) (w' : World) => match z0 with | ⟨k, x⟩ => St w w.heap.size None' ([As.blk b0_0 69 [.bool ng, .int .i64 wd, str W, str F, .bool en, str E]]) w' ∧ k ≤ E.length ∧ x = expo (E.take k) ∧ 0 ≤ x ∧ x ≤ 99999) (fun (z0 : Nat × Int) => match z0 with | ⟨k, x⟩ => [(3, .int .i64 x), (4, .int .i64 (k : Int))]) [1] (0, 0) ?_ (.cons rfl .nil) ?_ ?_
  · exact ⟨hw1, by omega, rfl, by omega, by omega⟩
  · exact (.cons rfl (by first | rfl | (refine congrArg (Value.int _) ?_; omega)) (.cons rfl (by first | rfl | (refine congrArg (Value.int _) ?_; omega)) .nil))
  rintro ⟨k, x⟩ w2 ⟨hw2, hk, hx, hx0, hx9⟩
  show RunC P _ _ _ (_ :: _) _
  refine c_seq ?_
  refine c_seq ?_
  refine c_region ?_
  refine l_move rfl rfl rfl ?_
  refine l_field fo69_5 rfl rfl rfl ?_
  refine l_load_blk hw2 mem0 rfl rfl Try.underlying9 rfl rfl rfl ?_
  refine l_lenstr rfl rfl Try.underlying9 rfl ?_
  refine l_lss rfl rfl rfl rfl ?_
  refine l_nil ?_
  refine e_then ?_
  refine c_keep [1, 3, 4, 9] (.cons rfl (.cons rfl (.cons rfl (.cons rfl .nil)))) ?_
  first | refine c_cond rfl (fun hc0 => ?_) (fun hc0 => ?_) | refine c_condb rfl (fun hc0 => ?_) (fun hc0 => ?_)
  · skip
    refine c_skip ?_
    refine e_then ?_
    refine c_keep [1, 3, 4] (.cons rfl (.cons rfl (.cons rfl .nil))) ?_
    refine c_seq ?_
    refine c_block ?_
    refine c_seq ?_
    refine c_region ?_
    have hdk : isD (E.getD k 0) := hE _ (getD_mem (by omega))
    unfold isD at hdk
    refine l_move rfl rfl rfl ?_
    refine l_mul rfl rfl rfl rfl (w_i64 (by omega)) ?_
    refine l_field fo69_5 rfl rfl rfl ?_
    refine l_load_blk hw2 mem0 rfl rfl Try.underlying9 rfl rfl rfl ?_
    refine l_move rfl rfl rfl ?_
    refine v_gets (j := k) rfl rfl Try.underlying9 rfl rfl (by omega) (by first | omega | (simp; omega) | (simp; done)) (fun hb5_5 => ?_)
    refine l_sub rfl rfl rfl rfl (w_u8 (by omega)) ?_
    refine l_conv rfl rfl Try.underlying5 Try.underlying3 rfl (w_i64 (by omega)) ?_
    refine l_add rfl rfl rfl rfl (w_i64 (by omega)) ?_
    refine l_assign rfl rfl rfl ?_
    refine l_nil ?_
    refine e_then ?_
    refine c_keep [1, 3, 4] (.cons rfl (.cons rfl (.cons rfl .nil))) ?_
    refine c_seq ?_
    refine c_region ?_
    refine l_move rfl rfl rfl ?_
    refine l_gtr rfl rfl rfl rfl ?_
    refine l_nil ?_
    refine e_then ?_
    refine c_keep [1, 3, 4, 22] (.cons rfl (.cons rfl (.cons rfl (.cons rfl .nil)))) ?_
    first | refine c_cond rfl (fun hc1 => ?_) (fun hc1 => ?_) | refine c_condb rfl (fun hc1 => ?_) (fun hc1 => ?_)
    · skip
      refine c_seq ?_
      refine c_region ?_
      refine l_assign rfl rfl rfl ?_
      refine l_nil ?_
      refine e_then ?_
      refine c_keep [1, 3] (.cons rfl (.cons rfl .nil)) ?_
      refine c_exit ?_
      refine e_blk_other rfl ?_
      refine e_then_exit ?_
      refine e_then_exit ?_
      refine e_blk_exit ?_
      refine e_then ?_
      refine c_seq ?_
      refine c_seq ?_
      refine c_region ?_
      have hxE : expo E = 99999 := by
        rw [← List.take_append_drop (k + 1) E]
        exact expo_keep _ _ (fun y hy => hE y (List.mem_of_mem_drop hy)) (by rw [expo_next (by omega), ← hx]; omega)
      refine l_field fo69_4 rfl rfl rfl ?_
      refine l_load_blk hw2 mem0 rfl rfl Try.underlying4 rfl rfl rfl ?_
      refine l_nil ?_
      refine e_then ?_
      refine c_keep [3, 24] (.cons rfl (.cons rfl .nil)) ?_
      first | refine c_cond rfl (fun hc2 => ?_) (fun hc2 => ?_) | refine c_condb rfl (fun hc2 => ?_) (fun hc2 => ?_)
      · skip
        refine c_seq ?_
        refine c_region ?_
        refine l_move rfl rfl rfl ?_
        refine l_neg rfl rfl rfl (w_i64 (by omega)) ?_
        refine l_assign rfl rfl rfl ?_
        refine l_nil ?_
        refine e_then ?_
        refine c_keep [2] (.cons rfl .nil) ?_
        refine c_ret ?_
        refine e_then_ret ?_
        refine e_done1 Try.results32 rfl ?_
        refine ⟨_, rfl, ?_⟩
        have hw3 := St.del .head hw2
        try clear hw2
        refine ⟨?_, hw3.grows⟩
        unfold expS
        first | (rw [if_pos (by assumption), hxE]; done) | (rw [if_pos (by assumption), hxE]; rfl)
      · skip
        refine c_skip ?_
        refine e_then ?_
        refine c_keep [3] (.cons rfl .nil) ?_
        refine c_seq ?_
        refine c_region ?_
        refine l_move rfl rfl rfl ?_
        refine l_assign rfl rfl rfl ?_
        refine l_nil ?_
        refine e_then ?_
        refine c_keep [2] (.cons rfl .nil) ?_
        refine c_ret ?_
        refine e_done1 Try.results32 rfl ?_
        refine ⟨_, rfl, ?_⟩
        have hw4 := St.del .head hw2
        try clear hw2
        refine ⟨?_, hw4.grows⟩
        unfold expS
        rw [if_neg (by rw [‹en = false›]; decide), hxE]
    · skip
      refine c_skip ?_
      refine e_blk ?_
      refine e_then ?_
      refine c_keep [1, 3, 4] (.cons rfl (.cons rfl (.cons rfl .nil))) ?_
      refine c_region ?_
      refine l_move rfl rfl rfl ?_
      refine l_add rfl rfl rfl rfl (w_i64 (by omega)) ?_
      refine l_assign rfl rfl rfl ?_
      refine l_nil ?_
      refine e_againk (i := (k, x)) (k + 1, 10 * x + (((E.getD k 0).toNat : Int) - 48)) ?_ ?_ (.cons rfl .nil) ?_
      · first | omega | (simp; omega)
      · exact ⟨hw2, by omega, by rw [expo_next (by omega), ← hx]; omega, by omega, by omega⟩
      · exact (.cons rfl (by first | rfl | (refine congrArg (Value.int _) ?_; omega)) (.cons rfl (by first | rfl | (refine congrArg (Value.int _) ?_; omega)) .nil))
  · skip
    refine c_exit ?_
    refine e_then_exit ?_
    refine e_then_exit ?_
    refine e_blk_exit ?_
    refine e_then ?_
    refine c_keep [1, 3] (.cons rfl (.cons rfl .nil)) ?_
    refine c_seq ?_
    refine c_seq ?_
    refine c_region ?_
    have hxE : expo E = x := by rw [hx, List.take_of_length_le (by omega)]
    refine l_field fo69_4 rfl rfl rfl ?_
    refine l_load_blk hw2 mem0 rfl rfl Try.underlying4 rfl rfl rfl ?_
    refine l_nil ?_
    refine e_then ?_
    refine c_keep [3, 24] (.cons rfl (.cons rfl .nil)) ?_
    first | refine c_cond rfl (fun hc3 => ?_) (fun hc3 => ?_) | refine c_condb rfl (fun hc3 => ?_) (fun hc3 => ?_)
    · skip
      refine c_seq ?_
      refine c_region ?_
      refine l_move rfl rfl rfl ?_
      refine l_neg rfl rfl rfl (w_i64 (by omega)) ?_
      refine l_assign rfl rfl rfl ?_
      refine l_nil ?_
      refine e_then ?_
      refine c_keep [2] (.cons rfl .nil) ?_
      refine c_ret ?_
      refine e_then_ret ?_
      refine e_done1 Try.results32 rfl ?_
      refine ⟨_, rfl, ?_⟩
      have hw5 := St.del .head hw2
      try clear hw2
      refine ⟨?_, hw5.grows⟩
      unfold expS
      first | (rw [if_pos (by assumption), hxE]; done) | (rw [if_pos (by assumption), hxE]; rfl)
    · skip
      refine c_skip ?_
      refine e_then ?_
      refine c_keep [3] (.cons rfl .nil) ?_
      refine c_seq ?_
      refine c_region ?_
      refine l_move rfl rfl rfl ?_
      refine l_assign rfl rfl rfl ?_
      refine l_nil ?_
      refine e_then ?_
      refine c_keep [2] (.cons rfl .nil) ?_
      refine c_ret ?_
      refine e_done1 Try.results32 rfl ?_
      refine ⟨_, rfl, ?_⟩
      have hw6 := St.del .head hw2
      try clear hw2
      refine ⟨?_, hw6.grows⟩
      unfold expS
      rw [if_neg (by rw [‹en = false›]; decide), hxE]
theorem all8R (ng : Bool) (wd : Int) (W F : L8) (en : Bool) (E : L8) (hLW : W.length ≤ 1099511627776) (hLF : F.length ≤ 1099511627776) (w : World) :
    CallsV P 30 [.agg #[.bool ng, .int .i64 wd, str W, str F, .bool en, str E]] w fun r w' => r = str (skip0 (W ++ F)) ∧ Grow w w' [] := by
  refine enterW Try.func30 rfl Try.ntmps30 rfl ?_
  have hw0 := St.start w
  refine c_seq ?_
  refine c_region ?_
  refine l_box hw0 rfl rfl rfl (fun b0_0 w1 hw1 => ?_)
  try clear hw0
  refine l_assign rfl rfl rfl ?_
  refine l_nil ?_
  refine e_then ?_
  refine c_keep [1] (.cons rfl .nil) ?_
  refine c_seq ?_
  refine c_region ?_
  refine l_field fo69_2 rfl rfl rfl ?_
  refine l_load_blk hw1 mem0 rfl rfl Try.underlying9 rfl rfl rfl ?_
  refine l_field fo69_3 rfl rfl rfl ?_
  refine l_load_blk hw1 mem0 rfl rfl Try.underlying9 rfl rfl rfl ?_
  refine l_adds rfl rfl rfl rfl (by first | omega | (simp only [List.length_append, List.length_cons, List.length_nil] at *; omega)) ?_
  refine l_assign rfl rfl rfl ?_
  refine l_nil ?_
  refine e_then ?_
  refine c_keep [3] (.cons rfl .nil) ?_
  refine c_seq ?_
  refine c_block ?_
  refine c_loopk (ι := Nat) (fun (z : Nat) => (W ++ F).length - z) (fun (z : Nat) (w' : World) => St w w.heap.size None' ([As.blk b0_0 69 [.bool ng, .int .i64 wd, str W, str F, .bool en, str E]]) w' ∧ z ≤ (W ++ F).length ∧ ∀ j, j < z → (W ++ F).getD j 0 = 48) (fun (z : Nat) => [(3, str ((W ++ F).drop z))]) [] (0) ?_ .nil ?_ ?_
  · exact ⟨hw1, by omega, fun j hj => by omega⟩
  · exact (.cons rfl (by first | rfl | (refine congrArg (Value.int _) ?_; omega)) .nil)
  rintro z w2 ⟨hw2, hz, hzs⟩
  show RunC P _ _ _ (_ :: _) _
  have hlz : ((W ++ F).drop z).length = (W ++ F).length - z := List.length_drop
  have hlW : (W ++ F).length = W.length + F.length := by simp
  refine c_seq ?_
  refine c_seq ?_
  refine c_region ?_
  refine l_move rfl rfl rfl ?_
  refine l_neqs rfl rfl rfl rfl ?_
  refine l_move rfl rfl rfl ?_
  apply l_and 3 [3] rfl rfl (.cons rfl (.cons rfl .nil)) rfl rfl (fun _ => rfl) rfl rfl rfl
  · intro hg2_3
    refine l_move rfl rfl rfl ?_
    have h0 := ne_len hg2_3
    refine v_gets (j := 0) rfl rfl Try.underlying9 rfl rfl (by omega) (by first | omega | (simp; omega) | (simp; done)) (fun hb2_4 => ?_)
    refine l_eql rfl rfl rfl rfl ?_
    refine l_nil ?_
    exact e_stays rfl (.cons rfl (congrArg Value.bool (decide_eq_true hg2_3).symm) (.cons rfl rfl .nil))
  refine l_nil ?_
  refine e_then ?_
  refine c_keep [3, 15] (.cons rfl (.cons rfl .nil)) ?_
  first | refine c_cond rfl (fun hc0 => ?_) (fun hc0 => ?_) | refine c_condb rfl (fun hc0 => ?_) (fun hc0 => ?_)
  · skip
    refine c_skip ?_
    refine e_then ?_
    refine c_keep [3] (.cons rfl .nil) ?_
    refine c_block ?_
    refine c_region ?_
    refine l_move rfl rfl rfl ?_
    have h0 := ne_len hc0.1
    refine l_slices (l := 1) (h := ((W ++ F).drop z).length) rfl rfl Try.underlying9 rfl rfl rfl (by first | rfl | (simp; done) | (simp; omega)) (by first | rfl | (simp; done) | (simp; omega)) (by omega) (by first | omega | (simp; omega) | (simp; done)) ?_
    refine l_assign rfl rfl rfl ?_
    refine l_nil ?_
    refine e_blk ?_
    refine e_againk (i := (z)) (z + 1) ?_ ?_ .nil ?_
    · have := ne_len hc0.1
      show (W ++ F).length - (z + 1) < (W ++ F).length - z
      omega
    · refine ⟨hw2, by have := ne_len hc0.1; omega, fun j hj => ?_⟩
      rcases Nat.lt_or_ge j z with h | h
      · exact hzs j h
      · obtain rfl : j = z := by omega
        have := hc0.2
        rw [getD_drop] at this
        exact (u8_eq (d := 48)).1 this
    · exact (.cons rfl (by rw [List.take_length, List.drop_drop]) .nil)
  · skip
    refine c_exit ?_
    refine e_then_exit ?_
    refine e_then_exit ?_
    refine e_blk_exit ?_
    refine e_then ?_
    refine c_keep [3] (.cons rfl .nil) ?_
    refine c_seq ?_
    refine c_region ?_
    refine l_move rfl rfl rfl ?_
    refine l_assign rfl rfl rfl ?_
    refine l_nil ?_
    refine e_then ?_
    refine c_keep [2] (.cons rfl .nil) ?_
    refine c_ret ?_
    refine e_done1 Try.results30 rfl ?_
    refine ⟨_, rfl, ?_⟩
    have hw3 := St.del .head hw2
    try clear hw2
    have hsk : skip0 (W ++ F) = (W ++ F).drop z := skip0_drop _ z hz hzs (fun h h2 => hc0 ⟨fun e => by rw [e] at hlz; simp at hlz; omega, by rw [getD_drop]; exact (u8_eq (d := 48)).2 h2⟩)
    exact ⟨by rw [hsk], hw3.grows⟩
theorem number4 (v : Value) (l : L8) (hd : ∀ j, j < l.length → isD (l.getD j 0)) (hL : l.length ≤ 4000) (w : World) (hv : IB w v l) :
    CallsV P 38 [v] w fun r w' => ∃ v ls, r = v ∧ R16 ls (pv l) ∧ Grow w w' [As.ri 3 .i64 v ls] := by
  refine enterW Try.func38 rfl Try.ntmps38 rfl ?_
  have hw0 := St.start w
  refine c_seq ?_
  refine c_region ?_
  refine l_assign rfl rfl rfl ?_
  refine l_nil ?_
  refine e_then ?_
  refine c_keep [0] (.cons rfl .nil) ?_
  refine c_seq ?_
  refine c_region ?_
  refine l_assign rfl rfl rfl ?_
  refine l_nil ?_
  refine e_then ?_
  refine c_seq ?_
  refine c_seq ?_
  refine c_region ?_
  refine l_assign rfl rfl rfl ?_
  refine l_nil ?_
  refine e_then ?_
  refine c_block ?_
  refine c_loopk (ι := Nat × List Int × Value) (fun (z0 : Nat × List Int × Value) => match z0 with | ⟨k, lx, vx⟩ => l.length - k) (fun (z0 : Nat × List Int × Value) (w' : World) => match z0 with | ⟨k, lx, vx⟩ => St w w.heap.size None' ([As.ri 3 .i64 vx lx]) w' ∧ k ≤ l.length ∧ R16 lx (pv (l.take k)) ∧ Ma.blen (pv (l.take k)) ≤ 4 * k) (fun (z0 : Nat × List Int × Value) => match z0 with | ⟨k, lx, vx⟩ => [(3, vx), (4, .int .i64 (k : Int))]) [0] (0, [], .slice none 0 0) ?_ (.cons rfl .nil) ?_ ?_
  · exact ⟨hw0.nil 3, by omega, Ma.Cn.nil, by rw [List.take_zero]; decide⟩
  · exact (.cons rfl (by first | rfl | (refine congrArg (Value.int _) ?_; omega)) (.cons rfl (by first | rfl | (refine congrArg (Value.int _) ?_; omega)) .nil))
  rintro ⟨k, lx, vx⟩ w1 ⟨hw1, hk, hRx, hbx⟩
  show RunC P _ _ _ (_ :: _) _
  refine c_seq ?_
  refine c_seq ?_
  refine c_region ?_
  refine l_move rfl rfl rfl ?_
  refine l_move rfl rfl rfl ?_
  refine v_lenb rfl rfl Try.underlying22 rfl (by first | exact hw1.io mem0 | exact hw1.iarg hv | assumption) ?_
  refine l_lss rfl rfl rfl rfl ?_
  refine l_nil ?_
  refine e_then ?_
  refine c_keep [0, 3, 4, 8] (.cons rfl (.cons rfl (.cons rfl (.cons rfl .nil)))) ?_
  first | refine c_cond rfl (fun hc0 => ?_) (fun hc0 => ?_) | refine c_condb rfl (fun hc0 => ?_) (fun hc0 => ?_)
  · skip
    refine c_skip ?_
    refine e_then ?_
    refine c_keep [0, 3, 4] (.cons rfl (.cons rfl (.cons rfl .nil))) ?_
    refine c_seq ?_
    refine c_block ?_
    have hw2 := hw1.drewn
    try clear hw1
    obtain ⟨A5, c5, hv5⟩ := (hw2.iarg hv).lies (by simp; omega)
    have hdk := hd k (by omega)
    unfold isD at hdk
    have hlx := hRx.len (k := 16000) (by omega)
    refine c_any (n := 13) [false, false, false, false, false, false, false, false, false, false, false, false, false] (fun wS => IB wS v l) (by kernel_rfl) rfl rfl ?_
    apply a_take (L' := [true, false, false, false, false, false, false, false, false, false, false, false, false]) 0 rfl (by kernel_rfl) (by kernel_rfl) (by kernel_rfl) rfl rfl rfl rfl rfl (hw2.iarg hv)
    · intro wS sS
      refine l_move rfl rfl rfl ?_
      refine l_nil ?_
      exact e_got rfl
    apply a_take (L' := [true, false, false, true, false, false, false, false, false, false, false, false, false]) 3 rfl (by kernel_rfl) (by kernel_rfl) (by kernel_rfl) rfl rfl rfl rfl rfl (hw2.iarg hv)
    · intro wS sS
      refine l_move rfl rfl rfl ?_
      refine l_nil ?_
      exact e_got rfl
    apply a_take (L' := [true, false, false, true, true, false, false, false, false, false, false, false, false]) 4 rfl (by kernel_rfl) (by kernel_rfl) (by kernel_rfl) rfl rfl rfl rfl rfl (hw2.iarg hv)
    · intro wS sS
      refine l_move rfl rfl rfl ?_
      refine l_nil ?_
      exact e_got rfl
    apply a_take (L' := [true, false, false, true, true, true, false, false, false, false, false, false, false]) 5 rfl (by kernel_rfl) (by kernel_rfl) (by kernel_rfl) rfl rfl rfl rfl rfl (hw2.iarg hv)
    · intro wS sS
      refine v_addrx (j := k) rfl rfl Try.underlying22 tz5 rfl rfl hv5 (by first | rfl | omega) (by first | omega | (simp; done) | (simp; omega)) ?_
      refine l_nil ?_
      exact e_got rfl
    apply a_take (L' := [true, false, false, true, true, true, true, false, false, false, false, false, false]) 6 rfl (by kernel_rfl) (by kernel_rfl) (by kernel_rfl) rfl rfl rfl rfl rfl (hw2.iarg hv)
    · intro wS sS
      refine v_loadb rfl rfl Try.underlying5 rfl hv5 (by first | exact hw2.io mem0 | exact hw2.iarg hv | assumption) (by first | omega | (simp; done) | (simp; omega)) (fun hb5_6 => ?_)
      refine l_nil ?_
      exact e_got rfl
    apply a_take (L' := [true, false, false, true, true, true, true, true, false, false, false, false, false]) 7 rfl (by kernel_rfl) (by kernel_rfl) (by kernel_rfl) rfl rfl rfl rfl rfl (hw2.iarg hv)
    · intro wS sS
      refine l_sub rfl rfl rfl rfl (w_u8 (by omega)) ?_
      refine l_nil ?_
      exact e_got rfl
    apply a_take (L' := [true, false, false, true, true, true, true, true, true, false, false, false, false]) 8 rfl (by kernel_rfl) (by kernel_rfl) (by kernel_rfl) rfl rfl rfl rfl rfl (hw2.iarg hv)
    · intro wS sS
      refine l_conv rfl rfl Try.underlying5 Try.underlying25 rfl (w_u64 (by omega)) ?_
      refine l_nil ?_
      exact e_got rfl
    refine a_two (L' := [true, true, false, true, true, true, true, true, true, false, false, false, false]) (L'' := [true, false, false, true, true, true, true, true, true, true, false, false, false]) 1 9 (by kernel_rfl) rfl rfl rfl rfl ?_ ?_
    · skip
      refine v_lit hw2 rfl rfl Try.underlying45 ti3 rfl (.cons rfl (by first | rfl | assumption) .nil) rfl rfl rfl (fun b5_1 w3 hw3 => ?_)
      try clear hw2
      refine l_nil ?_
      refine e_any (hw3.iarg hv) ?_
      refine a_two (L' := [true, true, true, true, true, true, true, true, true, false, false, false, false]) (L'' := [true, true, false, true, true, true, true, true, true, true, false, false, false]) 2 9 (by kernel_rfl) rfl rfl rfl rfl ?_ ?_
      · skip
        refine l_call rfl rfl Try.func55 rfl rfl (.cons rfl (.cons rfl .nil)) (prodR _ _ _ _ _ _ hRx R16.ten (by omega) (by simp) w3 (hw3.io mem1) (hw3.ibl mem0)) ?_
        rintro vp w4 ⟨_, lp, rfl, hRp, hG⟩
        have hw4 := hG _ _ _ _ hw3
        try clear hG hw3
        simp only [List.cons_append, List.nil_append] at hw4
        refine l_nil ?_
        refine e_any (hw4.iarg hv) ?_
        refine a_one (L' := [true, true, true, true, true, true, true, true, true, true, false, false, false]) 9 (by kernel_rfl) rfl rfl ?_
        refine v_lit hw4 rfl rfl Try.underlying42 ti25 rfl (.cons rfl (by first | rfl | assumption) .nil) rfl rfl rfl (fun b5_9 w5 hw5 => ?_)
        try clear hw4
        refine l_nil ?_
        refine e_any (hw5.iarg hv) ?_
        refine a_one (L' := [true, true, true, true, true, true, true, true, true, true, true, false, false]) 10 (by kernel_rfl) rfl rfl ?_
        refine l_call rfl rfl Try.func25 rfl rfl (.cons rfl .nil) (numR _ [((l.getD k 0).toNat : Int) - 48] (U.one (by omega)) (by simp) w5 (hw5.ibl mem0)) ?_
        rintro vn w6 ⟨_, ln, rfl, hRn, hG⟩
        have hw6 := hG _ _ _ _ hw5
        try clear hG hw5
        simp only [List.cons_append, List.nil_append] at hw6
        refine l_nil ?_
        refine e_any (hw6.iarg hv) ?_
        refine a_one (L' := [true, true, true, true, true, true, true, true, true, true, true, true, false]) 11 (by kernel_rfl) rfl rfl ?_
        refine l_call rfl rfl Try.func54 rfl rfl (.cons rfl (.cons rfl .nil)) (sumR _ _ _ _ _ _ hRp hRn (by have := hRp.len (k := 16004) (by have := blen_ten0 (hRx.nonneg (by omega)); omega); omega) (by have := R16.len_num (U.one (by omega)) hRn; simp at this; omega) w6 (hw6.io mem2) (hw6.io mem0)) ?_
        rintro vs w7 ⟨_, ls2, rfl, hRs, hG⟩
        have hw7 := hG _ _ _ _ hw6
        try clear hG hw6
        simp only [List.cons_append, List.nil_append] at hw7
        refine l_nil ?_
        refine e_any (hw7.iarg hv) ?_
        apply a_take (L' := [true, true, true, true, true, true, true, true, true, true, true, true, true]) 12 rfl (by kernel_rfl) (by kernel_rfl) (by kernel_rfl) rfl rfl rfl rfl rfl (hw7.iarg hv)
        · intro wS sS
          refine l_assign rfl rfl rfl ?_
          refine l_nil ?_
          exact e_got rfl
        refine a_done (by kernel_rfl) ?_
        refine e_blk ?_
        refine e_then ?_
        refine c_keep [0, 3, 4] (.cons rfl (.cons rfl (.cons rfl .nil))) ?_
        refine c_region ?_
        refine l_move rfl rfl rfl ?_
        refine l_add rfl rfl rfl rfl (w_i64 (by omega)) ?_
        refine l_assign rfl rfl rfl ?_
        refine l_nil ?_
        have hw8 := St.del (.tail (.tail (.tail (.tail (.tail .head))))) hw7
        try clear hw7
        have hw9 := St.del (.tail (.tail (.tail (.tail .head)))) hw8
        try clear hw8
        have hw10 := St.del (.tail (.tail (.tail .head))) hw9
        try clear hw9
        have hw11 := St.del (.tail (.tail .head)) hw10
        try clear hw10
        have hw12 := St.del (.tail .head) hw11
        try clear hw11
        refine e_againk (i := (k, lx, vx)) (k + 1, ls2, vs) ?_ ?_ (.cons rfl .nil) ?_
        · first | omega | (simp; omega)
        · exact ⟨hw12, by omega, by rw [pv_succ l (by omega)]; simpa [Ma.vb] using hRs, by rw [pv_succ l (by omega)]; have := blen_ten (hRx.nonneg (by omega)) (d := ((l.getD k 0).toNat : Int) - 48) (by omega); omega⟩
        · exact (.cons rfl (by first | rfl | (refine congrArg (Value.int _) ?_; omega)) (.cons rfl (by first | rfl | (refine congrArg (Value.int _) ?_; omega)) .nil))
      · skip
        refine v_lit hw3 rfl rfl Try.underlying42 ti25 rfl (.cons rfl (by first | rfl | assumption) .nil) rfl rfl rfl (fun b5_9 w13 hw13 => ?_)
        try clear hw3
        refine l_nil ?_
        refine e_any (hw13.iarg hv) ?_
        refine a_one (L' := [true, true, true, true, true, true, true, true, true, true, false, false, false]) 2 (by kernel_rfl) rfl rfl ?_
        refine l_call rfl rfl Try.func55 rfl rfl (.cons rfl (.cons rfl .nil)) (prodR _ _ _ _ _ _ hRx R16.ten (by omega) (by simp) w13 (hw13.io mem2) (hw13.ibl mem1)) ?_
        rintro vp w14 ⟨_, lp, rfl, hRp, hG⟩
        have hw14 := hG _ _ _ _ hw13
        try clear hG hw13
        simp only [List.cons_append, List.nil_append] at hw14
        refine l_nil ?_
        refine e_any (hw14.iarg hv) ?_
        refine a_one (L' := [true, true, true, true, true, true, true, true, true, true, true, false, false]) 10 (by kernel_rfl) rfl rfl ?_
        refine l_call rfl rfl Try.func25 rfl rfl (.cons rfl .nil) (numR _ [((l.getD k 0).toNat : Int) - 48] (U.one (by omega)) (by simp) w14 (hw14.ibl mem1)) ?_
        rintro vn w15 ⟨_, ln, rfl, hRn, hG⟩
        have hw15 := hG _ _ _ _ hw14
        try clear hG hw14
        simp only [List.cons_append, List.nil_append] at hw15
        refine l_nil ?_
        refine e_any (hw15.iarg hv) ?_
        refine a_one (L' := [true, true, true, true, true, true, true, true, true, true, true, true, false]) 11 (by kernel_rfl) rfl rfl ?_
        refine l_call rfl rfl Try.func54 rfl rfl (.cons rfl (.cons rfl .nil)) (sumR _ _ _ _ _ _ hRp hRn (by have := hRp.len (k := 16004) (by have := blen_ten0 (hRx.nonneg (by omega)); omega); omega) (by have := R16.len_num (U.one (by omega)) hRn; simp at this; omega) w15 (hw15.io mem1) (hw15.io mem0)) ?_
        rintro vs w16 ⟨_, ls2, rfl, hRs, hG⟩
        have hw16 := hG _ _ _ _ hw15
        try clear hG hw15
        simp only [List.cons_append, List.nil_append] at hw16
        refine l_nil ?_
        refine e_any (hw16.iarg hv) ?_
        apply a_take (L' := [true, true, true, true, true, true, true, true, true, true, true, true, true]) 12 rfl (by kernel_rfl) (by kernel_rfl) (by kernel_rfl) rfl rfl rfl rfl rfl (hw16.iarg hv)
        · intro wS sS
          refine l_assign rfl rfl rfl ?_
          refine l_nil ?_
          exact e_got rfl
        refine a_done (by kernel_rfl) ?_
        refine e_blk ?_
        refine e_then ?_
        refine c_keep [0, 3, 4] (.cons rfl (.cons rfl (.cons rfl .nil))) ?_
        refine c_region ?_
        refine l_move rfl rfl rfl ?_
        refine l_add rfl rfl rfl rfl (w_i64 (by omega)) ?_
        refine l_assign rfl rfl rfl ?_
        refine l_nil ?_
        have hw17 := St.del (.tail (.tail (.tail (.tail (.tail .head))))) hw16
        try clear hw16
        have hw18 := St.del (.tail (.tail (.tail (.tail .head)))) hw17
        try clear hw17
        have hw19 := St.del (.tail (.tail (.tail .head))) hw18
        try clear hw18
        have hw20 := St.del (.tail (.tail .head)) hw19
        try clear hw19
        have hw21 := St.del (.tail .head) hw20
        try clear hw20
        refine e_againk (i := (k, lx, vx)) (k + 1, ls2, vs) ?_ ?_ (.cons rfl .nil) ?_
        · first | omega | (simp; omega)
        · exact ⟨hw21, by omega, by rw [pv_succ l (by omega)]; simpa [Ma.vb] using hRs, by rw [pv_succ l (by omega)]; have := blen_ten (hRx.nonneg (by omega)) (d := ((l.getD k 0).toNat : Int) - 48) (by omega); omega⟩
        · exact (.cons rfl (by first | rfl | (refine congrArg (Value.int _) ?_; omega)) (.cons rfl (by first | rfl | (refine congrArg (Value.int _) ?_; omega)) .nil))
    · skip
      refine v_lit hw2 rfl rfl Try.underlying42 ti25 rfl (.cons rfl (by first | rfl | assumption) .nil) rfl rfl rfl (fun b5_9 w22 hw22 => ?_)
      try clear hw2
      refine l_nil ?_
      refine e_any (hw22.iarg hv) ?_
      refine a_one (L' := [true, true, false, true, true, true, true, true, true, true, false, false, false]) 1 (by kernel_rfl) rfl rfl ?_
      refine v_lit hw22 rfl rfl Try.underlying45 ti3 rfl (.cons rfl (by first | rfl | assumption) .nil) rfl rfl rfl (fun b5_1 w23 hw23 => ?_)
      try clear hw22
      refine l_nil ?_
      refine e_any (hw23.iarg hv) ?_
      refine a_one (L' := [true, true, true, true, true, true, true, true, true, true, false, false, false]) 2 (by kernel_rfl) rfl rfl ?_
      refine l_call rfl rfl Try.func55 rfl rfl (.cons rfl (.cons rfl .nil)) (prodR _ _ _ _ _ _ hRx R16.ten (by omega) (by simp) w23 (hw23.io mem2) (hw23.ibl mem0)) ?_
      rintro vp w24 ⟨_, lp, rfl, hRp, hG⟩
      have hw24 := hG _ _ _ _ hw23
      try clear hG hw23
      simp only [List.cons_append, List.nil_append] at hw24
      refine l_nil ?_
      refine e_any (hw24.iarg hv) ?_
      refine a_one (L' := [true, true, true, true, true, true, true, true, true, true, true, false, false]) 10 (by kernel_rfl) rfl rfl ?_
      refine l_call rfl rfl Try.func25 rfl rfl (.cons rfl .nil) (numR _ [((l.getD k 0).toNat : Int) - 48] (U.one (by omega)) (by simp) w24 (hw24.ibl mem2)) ?_
      rintro vn w25 ⟨_, ln, rfl, hRn, hG⟩
      have hw25 := hG _ _ _ _ hw24
      try clear hG hw24
      simp only [List.cons_append, List.nil_append] at hw25
      refine l_nil ?_
      refine e_any (hw25.iarg hv) ?_
      refine a_one (L' := [true, true, true, true, true, true, true, true, true, true, true, true, false]) 11 (by kernel_rfl) rfl rfl ?_
      refine l_call rfl rfl Try.func54 rfl rfl (.cons rfl (.cons rfl .nil)) (sumR _ _ _ _ _ _ hRp hRn (by have := hRp.len (k := 16004) (by have := blen_ten0 (hRx.nonneg (by omega)); omega); omega) (by have := R16.len_num (U.one (by omega)) hRn; simp at this; omega) w25 (hw25.io mem1) (hw25.io mem0)) ?_
      rintro vs w26 ⟨_, ls2, rfl, hRs, hG⟩
      have hw26 := hG _ _ _ _ hw25
      try clear hG hw25
      simp only [List.cons_append, List.nil_append] at hw26
      refine l_nil ?_
      refine e_any (hw26.iarg hv) ?_
      apply a_take (L' := [true, true, true, true, true, true, true, true, true, true, true, true, true]) 12 rfl (by kernel_rfl) (by kernel_rfl) (by kernel_rfl) rfl rfl rfl rfl rfl (hw26.iarg hv)
      · intro wS sS
        refine l_assign rfl rfl rfl ?_
        refine l_nil ?_
        exact e_got rfl
      refine a_done (by kernel_rfl) ?_
      refine e_blk ?_
      refine e_then ?_
      refine c_keep [0, 3, 4] (.cons rfl (.cons rfl (.cons rfl .nil))) ?_
      refine c_region ?_
      refine l_move rfl rfl rfl ?_
      refine l_add rfl rfl rfl rfl (w_i64 (by omega)) ?_
      refine l_assign rfl rfl rfl ?_
      refine l_nil ?_
      have hw27 := St.del (.tail (.tail (.tail (.tail (.tail .head))))) hw26
      try clear hw26
      have hw28 := St.del (.tail (.tail (.tail (.tail .head)))) hw27
      try clear hw27
      have hw29 := St.del (.tail (.tail (.tail .head))) hw28
      try clear hw28
      have hw30 := St.del (.tail (.tail .head)) hw29
      try clear hw29
      have hw31 := St.del (.tail .head) hw30
      try clear hw30
      refine e_againk (i := (k, lx, vx)) (k + 1, ls2, vs) ?_ ?_ (.cons rfl .nil) ?_
      · first | omega | (simp; omega)
      · exact ⟨hw31, by omega, by rw [pv_succ l (by omega)]; simpa [Ma.vb] using hRs, by rw [pv_succ l (by omega)]; have := blen_ten (hRx.nonneg (by omega)) (d := ((l.getD k 0).toNat : Int) - 48) (by omega); omega⟩
      · exact (.cons rfl (by first | rfl | (refine congrArg (Value.int _) ?_; omega)) (.cons rfl (by first | rfl | (refine congrArg (Value.int _) ?_; omega)) .nil))
  · skip
    refine c_exit ?_
    refine e_then_exit ?_
    refine e_then_exit ?_
    refine e_blk_exit ?_
    refine e_then ?_
    refine c_keep [3] (.cons rfl .nil) ?_
    refine c_seq ?_
    refine c_region ?_
    refine l_move rfl rfl rfl ?_
    refine l_assign rfl rfl rfl ?_
    refine l_nil ?_
    refine e_then ?_
    refine c_keep [2] (.cons rfl .nil) ?_
    refine c_ret ?_
    refine e_done1 Try.results38 rfl ?_
    refine ⟨_, rfl, ?_⟩
    obtain rfl : k = l.length := by omega
    rw [List.take_length] at hRx
    exact ⟨_, _, rfl, hRx, hw1.grows⟩
end Go.Proofs.Ytjkaahnadaapoaa.W
