/- walks of the statements on entries and places -/
import Derived.Test.YtggdkplphfofkaaGreatPc
import Derived.Test.YtggdkplphfofkaaGreatVr
set_option linter.unusedVariables false
set_option linter.unusedSimpArgs false
set_option maxRecDepth 10000
namespace Go.Proofs.YtggdkplphfofkaaGreat.W
open Go.Vc Go.RowKit
def whereS (q : Int) : Int × Int × Int := if q < -342 ∨ 308 < q then (0, 0, 60) else ((q + 342) / 16, (q + 342) % 16, 0)
def firstS (s : Int) : Int × Int × Int := if s < 0 ∨ 41 ≤ s then (0, 0, 61) else (-342 + 16 * s, if s = 40 then 11 else 16, 0)
theorem whereP (q : Int) (hq : -9223372036854775808 ≤ q ∧ q ≤ 9223372036854775807) (w : World) :
  CallsV P 24 [.int .i64 q] w fun r w' => r = .tuple #[.int .i64 (whereS q).1, .int .i64 (whereS q).2.1, .int .i64 (whereS q).2.2] ∧ w = w' := by
 refine enterW Tryz.func24 rfl Tryz.ntmps24 rfl ?_
 refine c_seq (c_region (l_assign rfl rfl rfl (l_assign rfl rfl rfl (l_assign rfl rfl rfl (l_nil ?_)))))
 refine e_then ?_
 refine c_keep [0] (.cons rfl .nil) ?_
 refine c_seq (c_seq (c_region (l_move rfl rfl rfl ?_)))
 refine l_lss rfl rfl rfl rfl ?_
 refine l_move rfl rfl rfl ?_
 apply l_or 2 [0] rfl rfl (.cons rfl (.cons rfl .nil)) rfl rfl (fun _ => rfl) rfl rfl rfl
 ·intro hg1_3
  refine l_move rfl rfl rfl ?_
  refine l_gtr rfl rfl rfl rfl ?_
  refine l_nil ?_
  exact e_stays rfl (.cons rfl (congrArg Value.bool (decide_eq_false hg1_3).symm) (.cons rfl rfl .nil))
 refine l_nil (e_then ?_)
 refine c_keep [0, 11] (.cons rfl (.cons rfl .nil)) ?_
 first | refine c_cond rfl (fun hc0 => ?_) (fun hc0 => ?_) | refine c_condb rfl (fun hc0 => ?_) (fun hc0 => ?_)
 ·skip
  refine c_seq (c_region (l_assign rfl rfl rfl (l_assign rfl rfl rfl (l_assign rfl rfl rfl (l_nil ?_)))))
  refine e_then ?_
  refine c_keep [2, 3, 4] (.cons rfl (.cons rfl (.cons rfl .nil))) ?_
  refine c_ret ?_
  refine e_then_ret ?_
  refine e_doneN Tryz.results24 (.tmp rfl (.tmp rfl (.tmp rfl .nil))) rfl ?_
  refine ⟨_, rfl, ?_⟩
  have e : whereS q = (0, 0, 60) := if_pos hc0
  rw [e]
  exact ⟨rfl, rfl⟩
 ·skip
  refine c_skip (e_then ?_)
  refine c_keep [0] (.cons rfl .nil) ?_
  refine c_seq (c_region (l_move rfl rfl rfl ?_))
  refine l_sub rfl rfl rfl rfl (w_i64 (by omega)) ?_
  refine l_assign rfl rfl rfl (l_nil (e_then ?_))
  refine c_keep [5] (.cons rfl .nil) ?_
  refine c_seq (c_region (l_move rfl rfl rfl ?_))
  refine l_quo rfl rfl rfl rfl (by omega) (q_i64 (by omega)) ?_
  refine l_move rfl rfl rfl ?_
  refine l_rem rfl rfl rfl rfl (by omega) (r_pos (by omega)) ?_
  refine l_assign rfl rfl rfl (l_assign rfl rfl rfl (l_assign rfl rfl rfl (l_nil (e_then ?_))))
  refine c_keep [2, 3, 4] (.cons rfl (.cons rfl (.cons rfl .nil))) ?_
  refine c_ret ?_
  refine e_doneN Tryz.results24 (.tmp rfl (.tmp rfl (.tmp rfl .nil))) rfl ?_
  refine ⟨_, rfl, ?_⟩
  have e : whereS q = ((q + 342) / 16, (q + 342) % 16, 0) := if_neg hc0
  rw [e, Int.sub_neg]
  exact ⟨rfl, rfl⟩
theorem whereR (q : Int) (hq : -9223372036854775808 ≤ q ∧ q ≤ 9223372036854775807) (w : World) :
  CallsV P 26 [.int .i64 q] w fun r w' => r = .tuple #[.int .i64 (whereS q).1, .int .i64 (whereS q).2.1, .int .i64 (whereS q).2.2] ∧ w = w' := by
 refine enterW Tryz.func26 rfl Tryz.ntmps26 rfl ?_
 refine c_seq (c_region (l_assign rfl rfl rfl (l_assign rfl rfl rfl (l_assign rfl rfl rfl (l_nil ?_)))))
 refine e_then ?_
 refine c_keep [0] (.cons rfl .nil) ?_
 refine c_seq (c_seq (c_region (l_move rfl rfl rfl ?_)))
 refine l_lss rfl rfl rfl rfl ?_
 refine l_move rfl rfl rfl ?_
 apply l_or 2 [0] rfl rfl (.cons rfl (.cons rfl .nil)) rfl rfl (fun _ => rfl) rfl rfl rfl
 ·intro hg1_3
  refine l_move rfl rfl rfl ?_
  refine l_gtr rfl rfl rfl rfl ?_
  refine l_nil ?_
  exact e_stays rfl (.cons rfl (congrArg Value.bool (decide_eq_false hg1_3).symm) (.cons rfl rfl .nil))
 refine l_nil (e_then ?_)
 refine c_keep [0, 10] (.cons rfl (.cons rfl .nil)) ?_
 first | refine c_cond rfl (fun hc0 => ?_) (fun hc0 => ?_) | refine c_condb rfl (fun hc0 => ?_) (fun hc0 => ?_)
 ·skip
  refine c_seq (c_region (l_assign rfl rfl rfl (l_assign rfl rfl rfl (l_assign rfl rfl rfl (l_nil ?_)))))
  refine e_then ?_
  refine c_keep [2, 3, 4] (.cons rfl (.cons rfl (.cons rfl .nil))) ?_
  refine c_ret ?_
  refine e_then_ret ?_
  refine e_doneN Tryz.results26 (.tmp rfl (.tmp rfl (.tmp rfl .nil))) rfl ?_
  refine ⟨_, rfl, ?_⟩
  have e : whereS q = (0, 0, 60) := if_pos hc0
  rw [e]
  exact ⟨rfl, rfl⟩
 ·skip
  refine c_skip (e_then ?_)
  refine c_keep [0] (.cons rfl .nil) ?_
  refine c_seq (c_region (l_move rfl rfl rfl ?_))
  refine l_sub rfl rfl rfl rfl (w_i64 (by omega)) ?_
  refine l_quo rfl rfl rfl rfl (by omega) (q_i64 (by omega)) ?_
  refine l_move rfl rfl rfl ?_
  refine l_sub rfl rfl rfl rfl (w_i64 (by omega)) ?_
  refine l_rem rfl rfl rfl rfl (by omega) (r_pos (by omega)) ?_
  refine l_assign rfl rfl rfl (l_assign rfl rfl rfl (l_assign rfl rfl rfl (l_nil (e_then ?_))))
  refine c_keep [2, 3, 4] (.cons rfl (.cons rfl (.cons rfl .nil))) ?_
  refine c_ret ?_
  refine e_doneN Tryz.results26 (.tmp rfl (.tmp rfl (.tmp rfl .nil))) rfl ?_
  refine ⟨_, rfl, ?_⟩
  have e : whereS q = ((q + 342) / 16, (q + 342) % 16, 0) := if_neg hc0
  rw [e, Int.sub_neg]
  exact ⟨rfl, rfl⟩
theorem firstP (s : Int) (hs : -9223372036854775808 ≤ s ∧ s ≤ 9223372036854775807) (w : World) :
  CallsV P 34 [.int .i64 s] w fun r w' => r = .tuple #[.int .i64 (firstS s).1, .int .i64 (firstS s).2.1, .int .i64 (firstS s).2.2] ∧ w = w' := by
 refine enterW Tryz.func34 rfl Tryz.ntmps34 rfl ?_
 refine c_seq (c_region (l_assign rfl rfl rfl (l_assign rfl rfl rfl (l_assign rfl rfl rfl (l_nil ?_)))))
 refine e_then ?_
 refine c_keep [0] (.cons rfl .nil) ?_
 refine c_seq (c_seq (c_region (l_move rfl rfl rfl ?_)))
 refine l_lss rfl rfl rfl rfl ?_
 refine l_move rfl rfl rfl ?_
 apply l_or 2 [0] rfl rfl (.cons rfl (.cons rfl .nil)) rfl rfl (fun _ => rfl) rfl rfl rfl
 ·intro hg1_3
  refine l_move rfl rfl rfl ?_
  refine l_geq rfl rfl rfl rfl ?_
  refine l_nil ?_
  exact e_stays rfl (.cons rfl (congrArg Value.bool (decide_eq_false hg1_3).symm) (.cons rfl rfl .nil))
 refine l_nil (e_then ?_)
 refine c_keep [0, 10] (.cons rfl (.cons rfl .nil)) ?_
 first | refine c_cond rfl (fun hc0 => ?_) (fun hc0 => ?_) | refine c_condb rfl (fun hc0 => ?_) (fun hc0 => ?_)
 ·skip
  refine c_seq (c_region (l_assign rfl rfl rfl (l_assign rfl rfl rfl (l_assign rfl rfl rfl (l_nil ?_)))))
  refine e_then ?_
  refine c_keep [2, 3, 4] (.cons rfl (.cons rfl (.cons rfl .nil))) ?_
  refine c_ret ?_
  refine e_then_ret ?_
  refine e_doneN Tryz.results34 (.tmp rfl (.tmp rfl (.tmp rfl .nil))) rfl ?_
  refine ⟨_, rfl, ?_⟩
  have e : firstS s = (0, 0, 61) := if_pos hc0
  rw [e]
  exact ⟨rfl, rfl⟩
 ·skip
  refine c_skip (e_then ?_)
  refine c_keep [0] (.cons rfl .nil) ?_
  refine c_seq (c_region (l_move rfl rfl rfl ?_))
  refine l_mul rfl rfl rfl rfl (w_i64 (by omega)) ?_
  refine l_add rfl rfl rfl rfl (w_i64 (by omega)) ?_
  refine l_assign rfl rfl rfl (l_nil (e_then ?_))
  refine c_keep [2] (.cons rfl .nil) ?_
  refine c_seq (c_region (l_move rfl rfl rfl (l_move rfl rfl rfl ?_)))
  refine l_sub rfl rfl rfl rfl (w_i64 (by omega)) ?_
  refine l_min rfl rfl rfl rfl ?_
  refine l_assign rfl rfl rfl (l_assign rfl rfl rfl (l_assign rfl rfl rfl (l_nil (e_then ?_))))
  refine c_keep [2, 3, 4] (.cons rfl (.cons rfl (.cons rfl .nil))) ?_
  refine c_ret ?_
  refine e_doneN Tryz.results34 (.tmp rfl (.tmp rfl (.tmp rfl .nil))) rfl ?_
  refine ⟨_, rfl, ?_⟩
  have e : firstS s = (-342 + 16 * s, if s = 40 then 11 else 16, 0) := if_neg hc0
  rw [e, show min 16 (309 - (-342 + 16 * s)) = (if s = 40 then 11 else 16) from by split <;> omega]
  exact ⟨rfl, rfl⟩
theorem firstR (s : Int) (hs : -9223372036854775808 ≤ s ∧ s ≤ 9223372036854775807) (w : World) :
  CallsV P 23 [.int .i64 s] w fun r w' => r = .tuple #[.int .i64 (firstS s).1, .int .i64 (firstS s).2.1, .int .i64 (firstS s).2.2] ∧ w = w' := by
 refine enterW Tryz.func23 rfl Tryz.ntmps23 rfl ?_
 refine c_seq (c_region (l_assign rfl rfl rfl (l_assign rfl rfl rfl (l_assign rfl rfl rfl (l_nil ?_)))))
 refine e_then ?_
 refine c_keep [0] (.cons rfl .nil) ?_
 refine c_seq (c_seq (c_region (l_move rfl rfl rfl ?_)))
 refine l_lss rfl rfl rfl rfl ?_
 refine l_move rfl rfl rfl ?_
 apply l_or 2 [0] rfl rfl (.cons rfl (.cons rfl .nil)) rfl rfl (fun _ => rfl) rfl rfl rfl
 ·intro hg1_3
  refine l_move rfl rfl rfl ?_
  refine l_geq rfl rfl rfl rfl ?_
  refine l_nil ?_
  exact e_stays rfl (.cons rfl (congrArg Value.bool (decide_eq_false hg1_3).symm) (.cons rfl rfl .nil))
 refine l_nil (e_then ?_)
 refine c_keep [0, 11] (.cons rfl (.cons rfl .nil)) ?_
 first | refine c_cond rfl (fun hc0 => ?_) (fun hc0 => ?_) | refine c_condb rfl (fun hc0 => ?_) (fun hc0 => ?_)
 ·skip
  refine c_seq (c_region (l_assign rfl rfl rfl (l_assign rfl rfl rfl (l_assign rfl rfl rfl (l_nil ?_)))))
  refine e_then ?_
  refine c_keep [2, 3, 4] (.cons rfl (.cons rfl (.cons rfl .nil))) ?_
  refine c_ret ?_
  refine e_then_ret ?_
  refine e_doneN Tryz.results23 (.tmp rfl (.tmp rfl (.tmp rfl .nil))) rfl ?_
  refine ⟨_, rfl, ?_⟩
  have e : firstS s = (0, 0, 61) := if_pos hc0
  rw [e]
  exact ⟨rfl, rfl⟩
 ·skip
  refine c_skip (e_then ?_)
  refine c_keep [0] (.cons rfl .nil) ?_
  refine c_seq (c_region (l_assign rfl rfl rfl (l_nil (e_then ?_))))
  refine c_cutk (ι := Int) (fun (n : Int) (w' : World) => w = w' ∧ n = if s = 40 then 11 else 16) (fun (n : Int) => [(5, .int .i64 n)]) [0] (.cons rfl .nil) ?_ ?_
  ·skip
   refine c_seq (c_region (l_move rfl rfl rfl ?_))
   refine l_eql rfl rfl rfl rfl ?_
   refine l_nil (e_then ?_)
   refine c_keep [0, 5, 13] (.cons rfl (.cons rfl (.cons rfl .nil))) ?_
   first | refine c_cond rfl (fun hc1 => ?_) (fun hc1 => ?_) | refine c_condb rfl (fun hc1 => ?_) (fun hc1 => ?_)
   ·skip
    refine c_region (l_move rfl rfl rfl ?_)
    refine l_mul rfl rfl rfl rfl (w_i64 (by omega)) ?_
    refine l_sub rfl rfl rfl rfl (w_i64 (by omega)) ?_
    refine l_assign rfl rfl rfl (l_nil ?_)
    refine e_meetk (651 - 16 * s) ?_ (.cons rfl .nil) ?_
    ·exact ⟨rfl, by rw [if_pos hc1]; omega⟩
    ·exact (.cons rfl (by first | rfl | (refine congrArg (Value.int _) ?_; omega)) .nil)
   ·skip
    refine c_skip ?_
    refine e_meetk (16) ?_ (.cons rfl .nil) ?_
    ·exact ⟨rfl, by rw [if_neg hc1]⟩
    ·exact (.cons rfl (by first | rfl | (refine congrArg (Value.int _) ?_; omega)) .nil)
  rintro n _ ⟨rfl, hn⟩
  show RunC P _ _ _ (_ :: _) _
  refine c_seq (c_region (l_move rfl rfl rfl ?_))
  refine l_mul rfl rfl rfl rfl (w_i64 (by omega)) ?_
  refine l_add rfl rfl rfl rfl (w_i64 (by omega)) ?_
  refine l_move rfl rfl rfl (l_assign rfl rfl rfl (l_assign rfl rfl rfl (l_assign rfl rfl rfl (l_nil (e_then ?_)))))
  refine c_keep [2, 3, 4] (.cons rfl (.cons rfl (.cons rfl .nil))) ?_
  refine c_ret ?_
  refine e_doneN Tryz.results23 (.tmp rfl (.tmp rfl (.tmp rfl .nil))) rfl ?_
  refine ⟨_, rfl, ?_⟩
  have e : firstS s = (-342 + 16 * s, if s = 40 then 11 else 16, 0) := if_neg hc0
  rw [e, hn]
  exact ⟨rfl, rfl⟩
end Go.Proofs.YtggdkplphfofkaaGreat.W
