/- walks of the statements on entries and places -/
import Derived.Test.YtellpcjmpmcpoaaPc
import Derived.Test.YtellpcjmpmcpoaaVr
set_option linter.unusedVariables false
set_option linter.unusedSimpArgs false
set_option maxRecDepth 10000
namespace Go.Proofs.Ytellpcjmpmcpoaa.W
open Go.Vc Go.RowKit

theorem open_boolW {P : Program} {W : World} {r : Reach} {b0 : Nat} {t : TypeId} {v : Value} (ht : P.underlying t = some .bool) (hval : Value.okWide P W r b0 t v) : ∃ b, v = .bool b := by
  have h : Cell.okWide P W r b0 t v := by simpa only [Value.okWide, ht] using hval
  simp only [Cell.okWide, ht] at h
  cases v <;> simp_all [Cell.ok]

theorem numL6 (x : Int) (w : World) :
    CallsV P 10 [.int .i64 x] w fun r w' => r = .int .i64 x ∧ w = w' := by
  refine enterW Try.func10 rfl Try.ntmps10 rfl ?_
  refine c_seq ?_
  refine c_region ?_
  refine l_assign rfl rfl rfl ?_
  refine l_nil ?_
  refine e_then ?_
  refine c_keep [0] (.cons rfl .nil) ?_
  refine c_seq ?_
  refine c_region ?_
  refine l_move rfl rfl rfl ?_
  refine l_assign rfl rfl rfl ?_
  refine l_nil ?_
  refine e_then ?_
  refine c_keep [2] (.cons rfl .nil) ?_
  refine c_ret ?_
  refine e_done1 Try.results10 rfl ?_
  refine ⟨_, rfl, ?_⟩
  exact ⟨rfl, rfl⟩
theorem exactP (q : Int) (w : World) :
    CallsV P 18 [.int .i64 q] w fun r w' => r = .bool (decide (0 ≤ q ∧ q ≤ 55)) ∧ w = w' := by
  refine enterW Try.func18 rfl Try.ntmps18 rfl ?_
  refine c_seq ?_
  refine c_region ?_
  refine l_assign rfl rfl rfl ?_
  refine l_nil ?_
  refine e_then ?_
  refine c_keep [0] (.cons rfl .nil) ?_
  refine c_seq ?_
  refine c_region ?_
  refine l_move rfl rfl rfl ?_
  refine l_geq rfl rfl rfl rfl ?_
  refine l_move rfl rfl rfl ?_
  apply l_and 2 [] rfl rfl (.cons rfl .nil) rfl rfl (fun _ => rfl) rfl rfl rfl
  · intro hg1_3
    refine l_move rfl rfl rfl ?_
    refine l_leq rfl rfl rfl rfl ?_
    refine l_nil ?_
    exact e_stays rfl (.cons rfl (congrArg Value.bool (decide_eq_true hg1_3).symm) .nil)
  refine l_assign rfl rfl rfl ?_
  refine l_nil ?_
  refine e_then ?_
  refine c_keep [2] (.cons rfl .nil) ?_
  refine c_ret ?_
  refine e_done1 Try.results18 rfl ?_
  refine ⟨_, rfl, ?_⟩
  exact ⟨rfl, rfl⟩
theorem exactR6 (q : Int) (w : World) :
    CallsV P 19 [.int .i64 q] w fun r w' => r = .bool (decide (0 ≤ q ∧ q ≤ 55)) ∧ w = w' := by
  refine enterW Try.func19 rfl Try.ntmps19 rfl ?_
  refine c_seq ?_
  refine c_region ?_
  refine l_assign rfl rfl rfl ?_
  refine l_nil ?_
  refine e_then ?_
  refine c_keep [0] (.cons rfl .nil) ?_
  refine c_seq ?_
  refine c_region ?_
  refine l_move rfl rfl rfl ?_
  refine l_geq rfl rfl rfl rfl ?_
  refine l_move rfl rfl rfl ?_
  apply l_and 2 [] rfl rfl (.cons rfl .nil) rfl rfl (fun _ => rfl) rfl rfl rfl
  · intro hg1_3
    refine l_move rfl rfl rfl ?_
    refine l_leq rfl rfl rfl rfl ?_
    refine l_nil ?_
    exact e_stays rfl (.cons rfl (congrArg Value.bool (decide_eq_true hg1_3).symm) .nil)
  refine l_assign rfl rfl rfl ?_
  refine l_nil ?_
  refine e_then ?_
  refine c_keep [2] (.cons rfl .nil) ?_
  refine c_ret ?_
  refine e_done1 Try.results19 rfl ?_
  refine ⟨_, rfl, ?_⟩
  exact ⟨rfl, rfl⟩

def whereS (q : Int) : Int × Int × Int := if q < -342 ∨ 308 < q then (0, 0, 60) else ((q + 342) / 16, (q + 342) % 16, 0)
def firstS (s : Int) : Int × Int × Int := if s < 0 ∨ 41 ≤ s then (0, 0, 61) else (-342 + 16 * s, if s = 40 then 11 else 16, 0)
theorem entS_one : entS 1 = (212676479325586539664609129644855132160, -125, 0) := by decide +kernel

theorem whereP (q : Int) (hq : -9223372036854775808 ≤ q ∧ q ≤ 9223372036854775807) (w : World) :
    CallsV P 22 [.int .i64 q] w fun r w' => r = .tuple #[.int .i64 (whereS q).1, .int .i64 (whereS q).2.1, .int .i64 (whereS q).2.2] ∧ w = w' := by
  refine enterW Try.func22 rfl Try.ntmps22 rfl ?_
  refine c_seq ?_
  refine c_region ?_
  refine l_assign rfl rfl rfl ?_
  refine l_assign rfl rfl rfl ?_
  refine l_assign rfl rfl rfl ?_
  refine l_nil ?_
  refine e_then ?_
  refine c_keep [0] (.cons rfl .nil) ?_
  refine c_seq ?_
  refine c_seq ?_
  refine c_region ?_
  refine l_move rfl rfl rfl ?_
  refine l_lss rfl rfl rfl rfl ?_
  refine l_move rfl rfl rfl ?_
  apply l_or 2 [0] rfl rfl (.cons rfl (.cons rfl .nil)) rfl rfl (fun _ => rfl) rfl rfl rfl
  · intro hg1_3
    refine l_move rfl rfl rfl ?_
    refine l_gtr rfl rfl rfl rfl ?_
    refine l_nil ?_
    exact e_stays rfl (.cons rfl (congrArg Value.bool (decide_eq_false hg1_3).symm) (.cons rfl rfl .nil))
  refine l_nil ?_
  refine e_then ?_
  refine c_keep [0, 11] (.cons rfl (.cons rfl .nil)) ?_
  first | refine c_cond rfl (fun hc0 => ?_) (fun hc0 => ?_) | refine c_condb rfl (fun hc0 => ?_) (fun hc0 => ?_)
  · skip
    refine c_seq ?_
    refine c_region ?_
    refine l_assign rfl rfl rfl ?_
    refine l_assign rfl rfl rfl ?_
    refine l_assign rfl rfl rfl ?_
    refine l_nil ?_
    refine e_then ?_
    refine c_keep [2, 3, 4] (.cons rfl (.cons rfl (.cons rfl .nil))) ?_
    refine c_ret ?_
    refine e_then_ret ?_
    refine e_doneN Try.results22 (.tmp rfl (.tmp rfl (.tmp rfl .nil))) rfl ?_
    refine ⟨_, rfl, ?_⟩
    have e : whereS q = (0, 0, 60) := if_pos hc0
    rw [e]
    exact ⟨rfl, rfl⟩
  · skip
    refine c_skip ?_
    refine e_then ?_
    refine c_keep [0] (.cons rfl .nil) ?_
    refine c_seq ?_
    refine c_region ?_
    refine l_move rfl rfl rfl ?_
    refine l_sub rfl rfl rfl rfl (w_i64 (by omega)) ?_
    refine l_assign rfl rfl rfl ?_
    refine l_nil ?_
    refine e_then ?_
    refine c_keep [5] (.cons rfl .nil) ?_
    refine c_seq ?_
    refine c_region ?_
    refine l_move rfl rfl rfl ?_
    refine l_quo rfl rfl rfl rfl (by omega) (q_i64 (by omega)) ?_
    refine l_move rfl rfl rfl ?_
    refine l_rem rfl rfl rfl rfl (by omega) (r_pos (by omega)) ?_
    refine l_assign rfl rfl rfl ?_
    refine l_assign rfl rfl rfl ?_
    refine l_assign rfl rfl rfl ?_
    refine l_nil ?_
    refine e_then ?_
    refine c_keep [2, 3, 4] (.cons rfl (.cons rfl (.cons rfl .nil))) ?_
    refine c_ret ?_
    refine e_doneN Try.results22 (.tmp rfl (.tmp rfl (.tmp rfl .nil))) rfl ?_
    refine ⟨_, rfl, ?_⟩
    have e : whereS q = ((q + 342) / 16, (q + 342) % 16, 0) := if_neg hc0
    rw [e, Int.sub_neg]
    exact ⟨rfl, rfl⟩
theorem whereR (q : Int) (hq : -9223372036854775808 ≤ q ∧ q ≤ 9223372036854775807) (w : World) :
    CallsV P 23 [.int .i64 q] w fun r w' => r = .tuple #[.int .i64 (whereS q).1, .int .i64 (whereS q).2.1, .int .i64 (whereS q).2.2] ∧ w = w' := by
  refine enterW Try.func23 rfl Try.ntmps23 rfl ?_
  refine c_seq ?_
  refine c_region ?_
  refine l_assign rfl rfl rfl ?_
  refine l_assign rfl rfl rfl ?_
  refine l_assign rfl rfl rfl ?_
  refine l_nil ?_
  refine e_then ?_
  refine c_keep [0] (.cons rfl .nil) ?_
  refine c_seq ?_
  refine c_seq ?_
  refine c_region ?_
  refine l_move rfl rfl rfl ?_
  refine l_lss rfl rfl rfl rfl ?_
  refine l_move rfl rfl rfl ?_
  apply l_or 2 [0] rfl rfl (.cons rfl (.cons rfl .nil)) rfl rfl (fun _ => rfl) rfl rfl rfl
  · intro hg1_3
    refine l_move rfl rfl rfl ?_
    refine l_gtr rfl rfl rfl rfl ?_
    refine l_nil ?_
    exact e_stays rfl (.cons rfl (congrArg Value.bool (decide_eq_false hg1_3).symm) (.cons rfl rfl .nil))
  refine l_nil ?_
  refine e_then ?_
  refine c_keep [0, 10] (.cons rfl (.cons rfl .nil)) ?_
  first | refine c_cond rfl (fun hc0 => ?_) (fun hc0 => ?_) | refine c_condb rfl (fun hc0 => ?_) (fun hc0 => ?_)
  · skip
    refine c_seq ?_
    refine c_region ?_
    refine l_assign rfl rfl rfl ?_
    refine l_assign rfl rfl rfl ?_
    refine l_assign rfl rfl rfl ?_
    refine l_nil ?_
    refine e_then ?_
    refine c_keep [2, 3, 4] (.cons rfl (.cons rfl (.cons rfl .nil))) ?_
    refine c_ret ?_
    refine e_then_ret ?_
    refine e_doneN Try.results23 (.tmp rfl (.tmp rfl (.tmp rfl .nil))) rfl ?_
    refine ⟨_, rfl, ?_⟩
    have e : whereS q = (0, 0, 60) := if_pos hc0
    rw [e]
    exact ⟨rfl, rfl⟩
  · skip
    refine c_skip ?_
    refine e_then ?_
    refine c_keep [0] (.cons rfl .nil) ?_
    refine c_seq ?_
    refine c_region ?_
    refine l_move rfl rfl rfl ?_
    refine l_sub rfl rfl rfl rfl (w_i64 (by omega)) ?_
    refine l_quo rfl rfl rfl rfl (by omega) (q_i64 (by omega)) ?_
    refine l_move rfl rfl rfl ?_
    refine l_sub rfl rfl rfl rfl (w_i64 (by omega)) ?_
    refine l_rem rfl rfl rfl rfl (by omega) (r_pos (by omega)) ?_
    refine l_assign rfl rfl rfl ?_
    refine l_assign rfl rfl rfl ?_
    refine l_assign rfl rfl rfl ?_
    refine l_nil ?_
    refine e_then ?_
    refine c_keep [2, 3, 4] (.cons rfl (.cons rfl (.cons rfl .nil))) ?_
    refine c_ret ?_
    refine e_doneN Try.results23 (.tmp rfl (.tmp rfl (.tmp rfl .nil))) rfl ?_
    refine ⟨_, rfl, ?_⟩
    have e : whereS q = ((q + 342) / 16, (q + 342) % 16, 0) := if_neg hc0
    rw [e, Int.sub_neg]
    exact ⟨rfl, rfl⟩
theorem firstP (s : Int) (hs : -9223372036854775808 ≤ s ∧ s ≤ 9223372036854775807) (w : World) :
    CallsV P 24 [.int .i64 s] w fun r w' => r = .tuple #[.int .i64 (firstS s).1, .int .i64 (firstS s).2.1, .int .i64 (firstS s).2.2] ∧ w = w' := by
  refine enterW Try.func24 rfl Try.ntmps24 rfl ?_
  refine c_seq ?_
  refine c_region ?_
  refine l_assign rfl rfl rfl ?_
  refine l_assign rfl rfl rfl ?_
  refine l_assign rfl rfl rfl ?_
  refine l_nil ?_
  refine e_then ?_
  refine c_keep [0] (.cons rfl .nil) ?_
  refine c_seq ?_
  refine c_seq ?_
  refine c_region ?_
  refine l_move rfl rfl rfl ?_
  refine l_lss rfl rfl rfl rfl ?_
  refine l_move rfl rfl rfl ?_
  apply l_or 2 [0] rfl rfl (.cons rfl (.cons rfl .nil)) rfl rfl (fun _ => rfl) rfl rfl rfl
  · intro hg1_3
    refine l_move rfl rfl rfl ?_
    refine l_geq rfl rfl rfl rfl ?_
    refine l_nil ?_
    exact e_stays rfl (.cons rfl (congrArg Value.bool (decide_eq_false hg1_3).symm) (.cons rfl rfl .nil))
  refine l_nil ?_
  refine e_then ?_
  refine c_keep [0, 10] (.cons rfl (.cons rfl .nil)) ?_
  first | refine c_cond rfl (fun hc0 => ?_) (fun hc0 => ?_) | refine c_condb rfl (fun hc0 => ?_) (fun hc0 => ?_)
  · skip
    refine c_seq ?_
    refine c_region ?_
    refine l_assign rfl rfl rfl ?_
    refine l_assign rfl rfl rfl ?_
    refine l_assign rfl rfl rfl ?_
    refine l_nil ?_
    refine e_then ?_
    refine c_keep [2, 3, 4] (.cons rfl (.cons rfl (.cons rfl .nil))) ?_
    refine c_ret ?_
    refine e_then_ret ?_
    refine e_doneN Try.results24 (.tmp rfl (.tmp rfl (.tmp rfl .nil))) rfl ?_
    refine ⟨_, rfl, ?_⟩
    have e : firstS s = (0, 0, 61) := if_pos hc0
    rw [e]
    exact ⟨rfl, rfl⟩
  · skip
    refine c_skip ?_
    refine e_then ?_
    refine c_keep [0] (.cons rfl .nil) ?_
    refine c_seq ?_
    refine c_region ?_
    refine l_move rfl rfl rfl ?_
    refine l_mul rfl rfl rfl rfl (w_i64 (by omega)) ?_
    refine l_add rfl rfl rfl rfl (w_i64 (by omega)) ?_
    refine l_assign rfl rfl rfl ?_
    refine l_nil ?_
    refine e_then ?_
    refine c_keep [2] (.cons rfl .nil) ?_
    refine c_seq ?_
    refine c_region ?_
    refine l_move rfl rfl rfl ?_
    refine l_move rfl rfl rfl ?_
    refine l_sub rfl rfl rfl rfl (w_i64 (by omega)) ?_
    refine l_min rfl rfl rfl rfl ?_
    refine l_assign rfl rfl rfl ?_
    refine l_assign rfl rfl rfl ?_
    refine l_assign rfl rfl rfl ?_
    refine l_nil ?_
    refine e_then ?_
    refine c_keep [2, 3, 4] (.cons rfl (.cons rfl (.cons rfl .nil))) ?_
    refine c_ret ?_
    refine e_doneN Try.results24 (.tmp rfl (.tmp rfl (.tmp rfl .nil))) rfl ?_
    refine ⟨_, rfl, ?_⟩
    have e : firstS s = (-342 + 16 * s, if s = 40 then 11 else 16, 0) := if_neg hc0
    rw [e, show min 16 (309 - (-342 + 16 * s)) = (if s = 40 then 11 else 16) from by split <;> omega]
    exact ⟨rfl, rfl⟩
theorem firstR (s : Int) (hs : -9223372036854775808 ≤ s ∧ s ≤ 9223372036854775807) (w : World) :
    CallsV P 25 [.int .i64 s] w fun r w' => r = .tuple #[.int .i64 (firstS s).1, .int .i64 (firstS s).2.1, .int .i64 (firstS s).2.2] ∧ w = w' := by
  refine enterW Try.func25 rfl Try.ntmps25 rfl ?_
  refine c_seq ?_
  refine c_region ?_
  refine l_assign rfl rfl rfl ?_
  refine l_assign rfl rfl rfl ?_
  refine l_assign rfl rfl rfl ?_
  refine l_nil ?_
  refine e_then ?_
  refine c_keep [0] (.cons rfl .nil) ?_
  refine c_seq ?_
  refine c_seq ?_
  refine c_region ?_
  refine l_move rfl rfl rfl ?_
  refine l_lss rfl rfl rfl rfl ?_
  refine l_move rfl rfl rfl ?_
  apply l_or 2 [0] rfl rfl (.cons rfl (.cons rfl .nil)) rfl rfl (fun _ => rfl) rfl rfl rfl
  · intro hg1_3
    refine l_move rfl rfl rfl ?_
    refine l_geq rfl rfl rfl rfl ?_
    refine l_nil ?_
    exact e_stays rfl (.cons rfl (congrArg Value.bool (decide_eq_false hg1_3).symm) (.cons rfl rfl .nil))
  refine l_nil ?_
  refine e_then ?_
  refine c_keep [0, 11] (.cons rfl (.cons rfl .nil)) ?_
  first | refine c_cond rfl (fun hc0 => ?_) (fun hc0 => ?_) | refine c_condb rfl (fun hc0 => ?_) (fun hc0 => ?_)
  · skip
    refine c_seq ?_
    refine c_region ?_
    refine l_assign rfl rfl rfl ?_
    refine l_assign rfl rfl rfl ?_
    refine l_assign rfl rfl rfl ?_
    refine l_nil ?_
    refine e_then ?_
    refine c_keep [2, 3, 4] (.cons rfl (.cons rfl (.cons rfl .nil))) ?_
    refine c_ret ?_
    refine e_then_ret ?_
    refine e_doneN Try.results25 (.tmp rfl (.tmp rfl (.tmp rfl .nil))) rfl ?_
    refine ⟨_, rfl, ?_⟩
    have e : firstS s = (0, 0, 61) := if_pos hc0
    rw [e]
    exact ⟨rfl, rfl⟩
  · skip
    refine c_skip ?_
    refine e_then ?_
    refine c_keep [0] (.cons rfl .nil) ?_
    refine c_seq ?_
    refine c_region ?_
    refine l_assign rfl rfl rfl ?_
    refine l_nil ?_
    refine e_then ?_
    refine c_cutk (ι := Int) (fun (n : Int) (w' : World) => w = w' ∧ n = if s = 40 then 11 else 16) (fun (n : Int) => [(5, .int .i64 n)]) [0] (.cons rfl .nil) ?_ ?_
    · skip
      refine c_seq ?_
      refine c_region ?_
      refine l_move rfl rfl rfl ?_
      refine l_eql rfl rfl rfl rfl ?_
      refine l_nil ?_
      refine e_then ?_
      refine c_keep [0, 5, 13] (.cons rfl (.cons rfl (.cons rfl .nil))) ?_
      first | refine c_cond rfl (fun hc1 => ?_) (fun hc1 => ?_) | refine c_condb rfl (fun hc1 => ?_) (fun hc1 => ?_)
      · skip
        refine c_region ?_
        refine l_move rfl rfl rfl ?_
        refine l_mul rfl rfl rfl rfl (w_i64 (by omega)) ?_
        refine l_sub rfl rfl rfl rfl (w_i64 (by omega)) ?_
        refine l_assign rfl rfl rfl ?_
        refine l_nil ?_
        refine e_meetk (651 - 16 * s) ?_ (.cons rfl .nil) ?_
        · exact ⟨rfl, by rw [if_pos hc1]; omega⟩
        · exact (.cons rfl (by first | rfl | (refine congrArg (Value.int _) ?_; omega)) .nil)
      · skip
        refine c_skip ?_
        refine e_meetk (16) ?_ (.cons rfl .nil) ?_
        · exact ⟨rfl, by rw [if_neg hc1]⟩
        · exact (.cons rfl (by first | rfl | (refine congrArg (Value.int _) ?_; omega)) .nil)
    rintro n _ ⟨rfl, hn⟩
    show RunC P _ _ _ (_ :: _) _
    refine c_seq ?_
    refine c_region ?_
    refine l_move rfl rfl rfl ?_
    refine l_mul rfl rfl rfl rfl (w_i64 (by omega)) ?_
    refine l_add rfl rfl rfl rfl (w_i64 (by omega)) ?_
    refine l_move rfl rfl rfl ?_
    refine l_assign rfl rfl rfl ?_
    refine l_assign rfl rfl rfl ?_
    refine l_assign rfl rfl rfl ?_
    refine l_nil ?_
    refine e_then ?_
    refine c_keep [2, 3, 4] (.cons rfl (.cons rfl (.cons rfl .nil))) ?_
    refine c_ret ?_
    refine e_doneN Try.results25 (.tmp rfl (.tmp rfl (.tmp rfl .nil))) rfl ?_
    refine ⟨_, rfl, ?_⟩
    have e : firstS s = (-342 + 16 * s, if s = 40 then 11 else 16, 0) := if_neg hc0
    rw [e, hn]
    exact ⟨rfl, rfl⟩
theorem wakes6  (w : World) :
    CallsV P 11 [] w fun r w' => r = .bool true ∧ Grow w w' [] := by
  refine enterW Try.func11 rfl Try.ntmps11 rfl ?_
  have hw0 := St.start w
  refine c_seq ?_
  refine c_region ?_
  refine l_assign rfl rfl rfl ?_
  refine l_nil ?_
  refine e_then ?_
  refine c_keep [] .nil ?_
  refine c_seq ?_
  refine c_region ?_
  refine l_call rfl rfl Try.func9 rfl rfl (.cons rfl .nil) (entryP 1 (by omega) w) ?_
  rintro _ w1 ⟨rfl, hG⟩
  have hw1 := hG _ _ _ _ hw0
  try clear hG hw0
  simp only [List.cons_append, List.nil_append] at hw1
  rw [entS_one]
  refine l_move rfl rfl rfl ?_
  refine l_extract rfl rfl rfl rfl ?_
  refine l_extract rfl rfl rfl rfl ?_
  refine l_extract rfl rfl rfl rfl ?_
  refine l_alloc hw1 ta24 rfl rfl (fun b1_5 w2 hw2 => ?_)
  try clear hw1
  refine l_store_blks hw2 .head (.zero (.zero .nil)) rfl tz24 rfl rfl (by first | (simp [Value.oneCell']; done) | (intro u hu; simp only [List.mem_cons, List.not_mem_nil, or_false] at hu; rcases hu with rfl | rfl <;> first | rfl | assumption)) (fun w3 hw3 => ?_)
  try clear hw2
  refine l_assign rfl rfl rfl ?_
  refine l_assign rfl rfl rfl ?_
  refine l_nil ?_
  refine e_then ?_
  refine c_keep [1, 2, 3] (.cons rfl (.cons rfl (.cons rfl .nil))) ?_
  refine c_seq ?_
  refine c_region ?_
  refine l_move rfl rfl rfl ?_
  refine l_callp rfl rfl Try.func10 rfl rfl (.cons rfl .nil) (numL6 _ _) ?_
  refine l_eql rfl rfl rfl rfl ?_
  refine l_turn (s := 11) (v' := .bool true) rfl (by rfl) ?_
  refine l_move rfl rfl rfl ?_
  refine l_move rfl rfl rfl ?_
  refine l_eql rfl rfl rfl rfl ?_
  refine l_turn (s := 14) (v' := .bool true) rfl (by rfl) ?_
  refine l_pick_t rfl rfl rfl rfl ?_
  refine l_move rfl rfl rfl ?_
  refine l_load_agg hw3 mem0 rfl rfl Try.underlying24 rfl tz24 rfl (.take (.take .nil)) ?_
  refine l_buildS rfl rfl pl24 ta24 (.one rfl rfl (by first | rfl | assumption) .zero .nil) ?_
  refine l_eqlA rfl rfl fl24 rfl rfl (.int rfl rfl (.int rfl rfl .nil)) ?_
  refine l_turn (s := 19) (v' := .bool true) rfl (by rfl) ?_
  refine l_pick_t rfl rfl rfl rfl ?_
  refine l_assign rfl rfl rfl ?_
  refine l_nil ?_
  refine e_then ?_
  refine c_keep [0] (.cons rfl .nil) ?_
  refine c_ret ?_
  refine e_done1 Try.results11 rfl ?_
  refine ⟨_, rfl, ?_⟩
  have hw4 := St.del .head hw3
  try clear hw3
  exact ⟨rfl, hw4.grows⟩
theorem powerEntriesL (q : Int) (hq : -9223372036854775808 ≤ q ∧ q ≤ 9223372036854775807) (near : Bool) (w : World) :
    CallsV P 4 [.int .i64 q, .bool near] w fun r w' => r = .bool true ∧ Grow w w' [] := by
  refine enterW Try.func4 rfl Try.ntmps4 rfl ?_
  have hw0 := St.start w
  refine c_seq ?_
  refine c_region ?_
  refine l_assign rfl rfl rfl ?_
  refine l_nil ?_
  refine e_then ?_
  refine c_keep [0, 1] (.cons rfl (.cons rfl .nil)) ?_
  refine c_cutk (ι := Int) (fun (p : Int) (w' : World) => St w w.heap.size None' ([]) w' ∧ -9223372036854775808 ≤ p ∧ p ≤ 9223372036854775807) (fun (p : Int) => [(0, .int .i64 p)]) [] .nil ?_ ?_
  · skip
    refine c_seq ?_
    refine c_region ?_
    refine l_move rfl rfl rfl ?_
    refine l_nil ?_
    refine e_then ?_
    refine c_keep [0, 11] (.cons rfl (.cons rfl .nil)) ?_
    first | refine c_cond rfl (fun hc0 => ?_) (fun hc0 => ?_) | refine c_condb rfl (fun hc0 => ?_) (fun hc0 => ?_)
    · skip
      refine c_region ?_
      refine l_move rfl rfl rfl ?_
      refine l_rem rfl rfl rfl rfl (by omega) (rfl) ?_
      have htm := Int.tmod_lt_of_pos q (show (0 : Int) < 400 by omega)
      have htn := Int.lt_tmod_of_pos q (show (0 : Int) < 400 by omega)
      refine l_sub rfl rfl rfl rfl (w_i64 (by omega)) ?_
      refine l_assign rfl rfl rfl ?_
      refine l_nil ?_
      refine e_meetk (q.tmod 400 - 20) ?_ .nil ?_
      · exact ⟨hw0, by omega⟩
      · exact (.cons rfl (by first | rfl | (refine congrArg (Value.int _) ?_; omega)) .nil)
    · skip
      refine c_skip ?_
      refine e_meetk (q) ?_ .nil ?_
      · exact ⟨hw0, hq⟩
      · exact (.cons rfl (by first | rfl | (refine congrArg (Value.int _) ?_; omega)) .nil)
  rintro p w1 ⟨hw1, hp⟩
  show RunC P _ _ _ (_ :: _) _
  refine c_seq ?_
  refine c_region ?_
  refine l_move rfl rfl rfl ?_
  refine l_call rfl rfl Try.func9 rfl rfl (.cons rfl .nil) (entryP p hp w1) ?_
  rintro _ w2 ⟨rfl, hG⟩
  have hw2 := hG _ _ _ _ hw1
  try clear hG hw1
  simp only [List.cons_append, List.nil_append] at hw2
  refine l_move rfl rfl rfl ?_
  refine l_extract rfl rfl rfl rfl ?_
  refine l_extract rfl rfl rfl rfl ?_
  refine l_extract rfl rfl rfl rfl ?_
  refine l_alloc hw2 ta24 rfl rfl (fun b3_6 w3 hw3 => ?_)
  try clear hw2
  refine l_store_blks hw3 .head (.zero (.zero .nil)) rfl tz24 rfl rfl (by first | (simp [Value.oneCell']; done) | (intro u hu; simp only [List.mem_cons, List.not_mem_nil, or_false] at hu; rcases hu with rfl | rfl <;> first | rfl | assumption)) (fun w4 hw4 => ?_)
  try clear hw3
  refine l_assign rfl rfl rfl ?_
  refine l_assign rfl rfl rfl ?_
  refine l_nil ?_
  refine e_then ?_
  refine c_keep [0, 5, 6, 7] (.cons rfl (.cons rfl (.cons rfl (.cons rfl .nil)))) ?_
  refine c_seq ?_
  refine c_region ?_
  refine l_move rfl rfl rfl ?_
  refine l_call rfl rfl Try.func17 rfl rfl (.cons rfl .nil) (entryR p hp w4) ?_
  rintro _ w5 ⟨rfl, hG⟩
  have hw5 := hG _ _ _ _ hw4
  try clear hG hw4
  simp only [List.cons_append, List.nil_append] at hw5
  refine l_move rfl rfl rfl ?_
  refine l_extract rfl rfl rfl rfl ?_
  refine l_extract rfl rfl rfl rfl ?_
  refine l_extract rfl rfl rfl rfl ?_
  refine l_alloc hw5 ta24 rfl rfl (fun b4_6 w6 hw6 => ?_)
  try clear hw5
  refine l_store_blks hw6 .head (.zero (.zero .nil)) rfl tz24 rfl rfl (by first | (simp [Value.oneCell']; done) | (intro u hu; simp only [List.mem_cons, List.not_mem_nil, or_false] at hu; rcases hu with rfl | rfl <;> first | rfl | assumption)) (fun w7 hw7 => ?_)
  try clear hw6
  refine l_assign rfl rfl rfl ?_
  refine l_assign rfl rfl rfl ?_
  refine l_nil ?_
  refine e_then ?_
  refine c_keep [0, 5, 6, 7, 8, 9, 10] (.cons rfl (.cons rfl (.cons rfl (.cons rfl (.cons rfl (.cons rfl (.cons rfl .nil))))))) ?_
  refine c_seq ?_
  refine c_region ?_
  refine l_load_agg hw7 mem1 rfl rfl Try.underlying24 rfl tz24 rfl (.take (.take .nil)) ?_
  refine l_load_agg hw7 mem0 rfl rfl Try.underlying24 rfl tz24 rfl (.take (.take .nil)) ?_
  refine l_eqlA rfl rfl fl24 rfl rfl (.int rfl rfl (.int rfl rfl .nil)) ?_
  refine l_turn (s := 29) (v' := .bool true) rfl (by simp) ?_
  refine l_move rfl rfl rfl ?_
  refine l_move rfl rfl rfl ?_
  refine l_move rfl rfl rfl ?_
  refine l_eql rfl rfl rfl rfl ?_
  refine l_turn (s := 33) (v' := .bool true) rfl (by simp) ?_
  refine l_pick_t rfl rfl rfl rfl ?_
  refine l_move rfl rfl rfl ?_
  refine l_move rfl rfl rfl ?_
  refine l_callp rfl rfl Try.func10 rfl rfl (.cons rfl .nil) (numL6 _ _) ?_
  refine l_move rfl rfl rfl ?_
  refine l_eql rfl rfl rfl rfl ?_
  refine l_turn (s := 39) (v' := .bool true) rfl (by simp) ?_
  refine l_pick_t rfl rfl rfl rfl ?_
  refine l_move rfl rfl rfl ?_
  refine l_move rfl rfl rfl ?_
  refine l_callp rfl rfl Try.func18 rfl rfl (.cons rfl .nil) (exactP p _) ?_
  refine l_move rfl rfl rfl ?_
  refine l_callp rfl rfl Try.func19 rfl rfl (.cons rfl .nil) (exactR6 p _) ?_
  refine l_eqlb Try.underlying4 rfl rfl rfl rfl ?_
  refine l_turn (s := 46) (v' := .bool true) rfl (by simp) ?_
  refine l_pick_t rfl rfl rfl rfl ?_
  refine l_move rfl rfl rfl ?_
  refine l_call rfl rfl Try.func11 rfl rfl .nil (wakes6 w7) ?_
  rintro _ w8 ⟨rfl, hG⟩
  have hw8 := hG _ _ _ _ hw7
  try clear hG hw7
  simp only [List.cons_append, List.nil_append] at hw8
  refine l_turn (s := 49) (v' := .bool true) rfl (by rfl) ?_
  refine l_pick_t rfl rfl rfl rfl ?_
  refine l_assign rfl rfl rfl ?_
  refine l_nil ?_
  refine e_then ?_
  refine c_keep [4] (.cons rfl .nil) ?_
  refine c_ret ?_
  refine e_done1 Try.results4 rfl ?_
  refine ⟨_, rfl, ?_⟩
  have hw9 := St.del (.tail .head) hw8
  try clear hw8
  have hw10 := St.del .head hw9
  try clear hw9
  exact ⟨rfl, hw10.grows⟩
theorem powerPlacesL (q : Int) (hq : -9223372036854775808 ≤ q ∧ q ≤ 9223372036854775807) (s : Int) (hs : -9223372036854775808 ≤ s ∧ s ≤ 9223372036854775807) (w : World) :
    CallsV P 6 [.int .i64 q, .int .i64 s] w fun r w' => r = .bool true ∧ Grow w w' [] := by
  refine enterW Try.func6 rfl Try.ntmps6 rfl ?_
  have hw0 := St.start w
  refine c_seq ?_
  refine c_region ?_
  refine l_assign rfl rfl rfl ?_
  refine l_nil ?_
  refine e_then ?_
  refine c_keep [0, 1] (.cons rfl (.cons rfl .nil)) ?_
  refine c_seq ?_
  refine c_region ?_
  refine l_move rfl rfl rfl ?_
  refine l_callp rfl rfl Try.func22 rfl rfl (.cons rfl .nil) (whereP q hq _) ?_
  refine l_move rfl rfl rfl ?_
  refine l_extract rfl rfl rfl rfl ?_
  refine l_extract rfl rfl rfl rfl ?_
  refine l_extract rfl rfl rfl rfl ?_
  refine l_assign rfl rfl rfl ?_
  refine l_assign rfl rfl rfl ?_
  refine l_assign rfl rfl rfl ?_
  refine l_nil ?_
  refine e_then ?_
  refine c_keep [0, 1, 5, 6, 7] (.cons rfl (.cons rfl (.cons rfl (.cons rfl (.cons rfl .nil))))) ?_
  refine c_seq ?_
  refine c_region ?_
  refine l_move rfl rfl rfl ?_
  refine l_callp rfl rfl Try.func23 rfl rfl (.cons rfl .nil) (whereR q hq _) ?_
  refine l_move rfl rfl rfl ?_
  refine l_extract rfl rfl rfl rfl ?_
  refine l_extract rfl rfl rfl rfl ?_
  refine l_extract rfl rfl rfl rfl ?_
  refine l_assign rfl rfl rfl ?_
  refine l_assign rfl rfl rfl ?_
  refine l_assign rfl rfl rfl ?_
  refine l_nil ?_
  refine e_then ?_
  refine c_keep [1, 5, 6, 7, 8, 9, 10] (.cons rfl (.cons rfl (.cons rfl (.cons rfl (.cons rfl (.cons rfl (.cons rfl .nil))))))) ?_
  refine c_seq ?_
  refine c_region ?_
  refine l_move rfl rfl rfl ?_
  refine l_callp rfl rfl Try.func24 rfl rfl (.cons rfl .nil) (firstP s hs _) ?_
  refine l_move rfl rfl rfl ?_
  refine l_extract rfl rfl rfl rfl ?_
  refine l_extract rfl rfl rfl rfl ?_
  refine l_extract rfl rfl rfl rfl ?_
  refine l_assign rfl rfl rfl ?_
  refine l_assign rfl rfl rfl ?_
  refine l_assign rfl rfl rfl ?_
  refine l_nil ?_
  refine e_then ?_
  refine c_keep [1, 5, 6, 7, 8, 9, 10, 11, 12, 13] (.cons rfl (.cons rfl (.cons rfl (.cons rfl (.cons rfl (.cons rfl (.cons rfl (.cons rfl (.cons rfl (.cons rfl .nil)))))))))) ?_
  refine c_seq ?_
  refine c_region ?_
  refine l_move rfl rfl rfl ?_
  refine l_callp rfl rfl Try.func25 rfl rfl (.cons rfl .nil) (firstR s hs _) ?_
  refine l_move rfl rfl rfl ?_
  refine l_extract rfl rfl rfl rfl ?_
  refine l_extract rfl rfl rfl rfl ?_
  refine l_extract rfl rfl rfl rfl ?_
  refine l_assign rfl rfl rfl ?_
  refine l_assign rfl rfl rfl ?_
  refine l_assign rfl rfl rfl ?_
  refine l_nil ?_
  refine e_then ?_
  refine c_keep [5, 6, 7, 8, 9, 10, 11, 12, 13, 14, 15, 16] (.cons rfl (.cons rfl (.cons rfl (.cons rfl (.cons rfl (.cons rfl (.cons rfl (.cons rfl (.cons rfl (.cons rfl (.cons rfl (.cons rfl .nil)))))))))))) ?_
  refine c_seq ?_
  refine c_region ?_
  refine l_move rfl rfl rfl ?_
  refine l_move rfl rfl rfl ?_
  refine l_eql rfl rfl rfl rfl ?_
  refine l_turn (s := 43) (v' := .bool true) rfl (by simp) ?_
  refine l_move rfl rfl rfl ?_
  refine l_move rfl rfl rfl ?_
  refine l_move rfl rfl rfl ?_
  refine l_eql rfl rfl rfl rfl ?_
  refine l_turn (s := 47) (v' := .bool true) rfl (by simp) ?_
  refine l_pick_t rfl rfl rfl rfl ?_
  refine l_move rfl rfl rfl ?_
  refine l_move rfl rfl rfl ?_
  refine l_callp rfl rfl Try.func10 rfl rfl (.cons rfl .nil) (numL6 _ _) ?_
  refine l_move rfl rfl rfl ?_
  refine l_eql rfl rfl rfl rfl ?_
  refine l_turn (s := 53) (v' := .bool true) rfl (by simp) ?_
  refine l_pick_t rfl rfl rfl rfl ?_
  refine l_move rfl rfl rfl ?_
  refine l_move rfl rfl rfl ?_
  refine l_move rfl rfl rfl ?_
  refine l_eql rfl rfl rfl rfl ?_
  refine l_turn (s := 58) (v' := .bool true) rfl (by simp) ?_
  refine l_pick_t rfl rfl rfl rfl ?_
  refine l_move rfl rfl rfl ?_
  refine l_move rfl rfl rfl ?_
  refine l_move rfl rfl rfl ?_
  refine l_eql rfl rfl rfl rfl ?_
  refine l_turn (s := 63) (v' := .bool true) rfl (by simp) ?_
  refine l_pick_t rfl rfl rfl rfl ?_
  refine l_move rfl rfl rfl ?_
  refine l_move rfl rfl rfl ?_
  refine l_callp rfl rfl Try.func10 rfl rfl (.cons rfl .nil) (numL6 _ _) ?_
  refine l_move rfl rfl rfl ?_
  refine l_eql rfl rfl rfl rfl ?_
  refine l_turn (s := 69) (v' := .bool true) rfl (by simp) ?_
  refine l_pick_t rfl rfl rfl rfl ?_
  refine l_move rfl rfl rfl ?_
  refine l_call rfl rfl Try.func11 rfl rfl .nil (wakes6 w) ?_
  rintro _ w1 ⟨rfl, hG⟩
  have hw1 := hG _ _ _ _ hw0
  try clear hG hw0
  simp only [List.cons_append, List.nil_append] at hw1
  refine l_turn (s := 72) (v' := .bool true) rfl (by rfl) ?_
  refine l_pick_t rfl rfl rfl rfl ?_
  refine l_assign rfl rfl rfl ?_
  refine l_nil ?_
  refine e_then ?_
  refine c_keep [4] (.cons rfl .nil) ?_
  refine c_ret ?_
  refine e_done1 Try.results6 rfl ?_
  refine ⟨_, rfl, ?_⟩
  exact ⟨rfl, hw1.grows⟩
end Go.Proofs.Ytellpcjmpmcpoaa.W
