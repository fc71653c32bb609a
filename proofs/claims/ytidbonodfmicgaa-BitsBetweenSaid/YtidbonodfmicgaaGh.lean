/- walks of the laws BitsShapes, BitsOrder and of their helpers -/
import Derived.Test.YtidbonodfmicgaaGf
import Derived.Test.YtidbonodfmicgaaGg
import Derived.Test.YtidbonodfmicgaaVr
set_option linter.unusedVariables false
set_option linter.unusedSimpArgs false
set_option maxRecDepth 10000
namespace Go.Proofs.Ytidbonodfmicgaa.W
open Go.Vc Go.RowKit

def NanR (k v e : Int) : Prop := match kd k with | some d => v = nanS d ∧ e = 0 | none => v = 0 ∧ e = 30
def InfR (k : Int) (neg : Bool) (v e : Int) : Prop := match kd k with | some d => v = (if neg then d.I + d.S else d.I) ∧ e = 0 | none => v = 0 ∧ e = 30
theorem nanV (k : Int) (w : World) : CallsV P 35 [.int .i64 k] w fun r w' => ∃ v e, r = .tuple #[.int .u64 v, .int .i64 e] ∧ NanR k v e ∧ Grow w w' [] := by
  refine (nanB k w).mono ?_
  rintro r w' ⟨hr, hG⟩
  cases h : kd k with
  | none => rw [h] at hr; exact ⟨_, _, hr, by unfold NanR; rw [h]; exact ⟨rfl, rfl⟩, hG⟩
  | some d => rw [h] at hr; exact ⟨_, _, hr, by unfold NanR; rw [h]; exact ⟨rfl, rfl⟩, hG⟩
theorem infV (k : Int) (neg : Bool) (w : World) : CallsV P 36 [.int .i64 k, .bool neg] w fun r w' => ∃ v e, r = .tuple #[.int .u64 v, .int .i64 e] ∧ InfR k neg v e ∧ Grow w w' [] := by
  refine (infsB k neg w).mono ?_
  rintro r w' ⟨hr, hG⟩
  cases h : kd k with
  | none => rw [h] at hr; exact ⟨_, _, hr, by unfold InfR; rw [h]; exact ⟨rfl, rfl⟩, hG⟩
  | some d => rw [h] at hr; exact ⟨_, _, hr, by unfold InfR; rw [h]; exact ⟨rfl, rfl⟩, hG⟩
theorem two_err {k v e v2 e2 : Int} {neg : Bool} (h : NanR k v e) (g : InfR k neg v2 e2) : e = e2 := by
  unfold NanR at h
  unfold InfR at g
  cases hk : kd k with
  | none => simp only [hk] at h g; omega
  | some d => simp only [hk] at h g; omega
theorem NanR.at {k v e : Int} {d : Kd} (h : NanR k v e) (hk : kd k = some d) : v = nanS d ∧ e = 0 := by unfold NanR at h; simpa only [hk] using h
theorem InfR.at {k v e : Int} {neg : Bool} {d : Kd} (h : InfR k neg v e) (hk : kd k = some d) : v = (if neg then d.I + d.S else d.I) ∧ e = 0 := by unfold InfR at h; simpa only [hk] using h
theorem NanR.no {k v e : Int} (h : NanR k v e) (hk : kd k = none) : v = 0 ∧ e = 30 := by unfold NanR at h; simpa only [hk] using h
theorem InfR.no {k v e : Int} {neg : Bool} (h : InfR k neg v e) (hk : kd k = none) : v = 0 ∧ e = 30 := by unfold InfR at h; simpa only [hk] using h
theorem kd_no {k : Int} (h : ¬ chk k 0 = 0) : kd k = none := by
  cases hk : kd k with
  | none => rfl
  | some d => exact absurd (chk_some hk (by have := d.bd; omega)) h
theorem tenth : RndR Kd.f64.H (Kd.f64.I - 1) (1 * 2 ^ Kd.f64.l) 10 (4591870180066957722, false, 0) := by
  refine .inr ⟨by decide +kernel, 4591870180066957721, by decide, by decide, by decide +kernel, by decide +kernel, ?_⟩
  have h1 : upR Kd.f64.H (1 * 2 ^ Kd.f64.l) 10 4591870180066957721 := by decide +kernel
  have h2 : ¬ fv Kd.f64.H 4591870180066957721 * 10 = 1 * 2 ^ Kd.f64.l := by decide +kernel
  rw [if_pos h1, decide_eq_false h2]
  rfl
theorem wakes_val {res : Int × Bool × Int} (h : RoundR 10 true (nv [1]) (nv [10]) res) : res = (13815242216921733530, false, 0) := by
  have e1 : nv [1] = 1 := rfl
  have e10 : nv [10] = 10 := rfl
  rw [e1, e10] at h
  have hr := RoundR.is (k := 10) (neg := true) (x := 1) (y := 10) (d := .f64) rfl (by decide) (by decide) tenth
  exact h.unique (by decide) hr

theorem num3 (x : Int) (w : World) :
    CallsV P 13 [.int .i64 x] w fun r w' => r = .int .i64 x ∧ w = w' := by
  refine enterW Try.func13 rfl Try.ntmps13 rfl ?_
  refine c_seq ?_
  refine c_region ?_
  refine l_assign rfl rfl rfl ?_
  refine l_nil ?_
  refine e_then ?_
  refine c_keep [0] (.cons rfl .nil) ?_
  refine c_seq ?_
  refine c_region ?_
  refine l_move rfl rfl rfl ?_
  refine l_assign rfl rfl rfl ?_
  refine l_nil ?_
  refine e_then ?_
  refine c_keep [2] (.cons rfl .nil) ?_
  refine c_ret ?_
  refine e_done1 Try.results13 rfl ?_
  refine ⟨_, rfl, ?_⟩
  exact ⟨rfl, rfl⟩
theorem kind3 (n : Int) (hn : -9223372036854775808 ≤ n ∧ n ≤ 9223372036854775807) (w : World) :
    CallsV P 10 [.int .i64 n] w fun r w' => ∃ k, r = .int .i64 k ∧ w = w' := by
  refine enterW Try.func10 rfl Try.ntmps10 rfl ?_
  refine c_seq ?_
  refine c_region ?_
  refine l_assign rfl rfl rfl ?_
  refine l_nil ?_
  refine e_then ?_
  refine c_keep [0] (.cons rfl .nil) ?_
  refine c_seq ?_
  refine c_seq ?_
  refine c_region ?_
  refine l_move rfl rfl rfl ?_
  refine l_bits rfl rfl rfl rfl rfl (rfl) ?_
  refine l_eql rfl rfl rfl rfl ?_
  refine l_nil ?_
  refine e_then ?_
  refine c_keep [0, 5] (.cons rfl (.cons rfl .nil)) ?_
  first | refine c_cond rfl (fun hc0 => ?_) (fun hc0 => ?_) | refine c_condb rfl (fun hc0 => ?_) (fun hc0 => ?_)
  · skip
    refine c_seq ?_
    refine c_region ?_
    refine l_move rfl rfl rfl ?_
    refine l_shr rfl rfl rfl rfl (by omega) (shr_eq (d := 16) (by decide) (by decide)) ?_
    refine l_bits rfl rfl rfl rfl rfl (rfl) ?_
    refine l_assign rfl rfl rfl ?_
    refine l_nil ?_
    refine e_then ?_
    refine c_keep [2] (.cons rfl .nil) ?_
    refine c_ret ?_
    refine e_then_ret ?_
    refine e_done1 Try.results10 rfl ?_
    refine ⟨_, rfl, ?_⟩
    exact ⟨_, rfl, rfl⟩
  · skip
    refine c_skip ?_
    refine e_then ?_
    refine c_keep [0] (.cons rfl .nil) ?_
    refine c_seq ?_
    refine c_region ?_
    refine l_move rfl rfl rfl ?_
    refine l_bits rfl rfl rfl rfl rfl (rfl) ?_
    refine l_add rfl rfl rfl rfl (rfl) ?_
    refine l_assign rfl rfl rfl ?_
    refine l_nil ?_
    refine e_then ?_
    refine c_keep [2] (.cons rfl .nil) ?_
    refine c_ret ?_
    refine e_done1 Try.results10 rfl ?_
    refine ⟨_, rfl, ?_⟩
    exact ⟨_, rfl, rfl⟩
theorem fit3 (k b : Int) (hb : 0 ≤ b ∧ b ≤ 18446744073709551615) (w : World) :
    CallsV P 17 [.int .i64 k, .int .u64 b] w fun r w' => r = .int .u64 (if k = 9 then b % 4294967296 else b) ∧ w = w' := by
  refine enterW Try.func17 rfl Try.ntmps17 rfl ?_
  refine c_seq ?_
  refine c_region ?_
  refine l_assign rfl rfl rfl ?_
  refine l_nil ?_
  refine e_then ?_
  refine c_keep [0, 1] (.cons rfl (.cons rfl .nil)) ?_
  refine c_seq ?_
  refine c_seq ?_
  refine c_region ?_
  refine l_move rfl rfl rfl ?_
  refine l_eql rfl rfl rfl rfl ?_
  refine l_nil ?_
  refine e_then ?_
  refine c_keep [1, 6] (.cons rfl (.cons rfl .nil)) ?_
  first | refine c_cond rfl (fun hc0 => ?_) (fun hc0 => ?_) | refine c_condb rfl (fun hc0 => ?_) (fun hc0 => ?_)
  · skip
    refine c_seq ?_
    refine c_region ?_
    refine l_move rfl rfl rfl ?_
    refine l_rem rfl rfl rfl rfl (by omega) (r_pos (by omega)) ?_
    refine l_assign rfl rfl rfl ?_
    refine l_nil ?_
    refine e_then ?_
    refine c_keep [4] (.cons rfl .nil) ?_
    refine c_ret ?_
    refine e_then_ret ?_
    refine e_done1 Try.results17 rfl ?_
    refine ⟨_, rfl, ?_⟩
    exact ⟨by rw [if_pos hc0], rfl⟩
  · skip
    refine c_skip ?_
    refine e_then ?_
    refine c_keep [1] (.cons rfl .nil) ?_
    refine c_seq ?_
    refine c_region ?_
    refine l_move rfl rfl rfl ?_
    refine l_assign rfl rfl rfl ?_
    refine l_nil ?_
    refine e_then ?_
    refine c_keep [4] (.cons rfl .nil) ?_
    refine c_ret ?_
    refine e_done1 Try.results17 rfl ?_
    refine ⟨_, rfl, ?_⟩
    exact ⟨by rw [if_neg hc0], rfl⟩
theorem wakes3  (w : World) :
    CallsV P 14 [] w fun r w' => r = .bool true ∧ Grow w w' [] := by
  refine enterW Try.func14 rfl Try.ntmps14 rfl ?_
  have hw0 := St.start w
  refine c_seq ?_
  refine c_region ?_
  refine l_assign rfl rfl rfl ?_
  refine l_nil ?_
  refine e_then ?_
  refine c_keep [] .nil ?_
  refine c_seq ?_
  refine c_region ?_
  refine v_lit hw0 rfl rfl Try.underlying22 ti24 rfl (.cons rfl (by first | rfl | assumption) .nil) rfl rfl rfl (fun b1_0 w1 hw1 => ?_)
  try clear hw0
  refine v_lit hw1 rfl rfl Try.underlying22 ti24 rfl (.cons rfl (by first | rfl | assumption) .nil) rfl rfl rfl (fun b1_1 w2 hw2 => ?_)
  try clear hw1
  refine l_call rfl rfl Try.func11 rfl rfl (.cons rfl (.cons rfl (.cons rfl (.cons rfl .nil)))) (roundB 10 true _ _ [1] [10] (U.one (by omega)) (U.one (by omega)) (by simp) (by simp) w2 (hw2.ibl mem1) (hw2.ibl mem0)) ?_
  rintro _ w3 ⟨res, rfl, hRr, hG⟩
  have hw3 := hG _ _ _ _ hw2
  try clear hG hw2
  simp only [List.cons_append, List.nil_append] at hw3
  obtain rfl := wakes_val hRr
  refine l_move rfl rfl rfl ?_
  refine l_extract rfl rfl rfl rfl ?_
  refine l_extract rfl rfl rfl rfl ?_
  refine l_extract rfl rfl rfl rfl ?_
  refine l_assign rfl rfl rfl ?_
  refine l_assign rfl rfl rfl ?_
  refine l_assign rfl rfl rfl ?_
  refine l_nil ?_
  refine e_then ?_
  refine c_keep [1, 2, 3] (.cons rfl (.cons rfl (.cons rfl .nil))) ?_
  refine c_seq ?_
  refine c_region ?_
  refine l_call rfl rfl Try.func19 rfl rfl (.cons rfl (.cons rfl .nil)) (splitB 9 1077936128 (by omega) w3) ?_
  rintro _ w4 ⟨rfl, hG⟩
  have hw4 := hG _ _ _ _ hw3
  try clear hG hw3
  simp only [List.cons_append, List.nil_append] at hw4
  have hsp : splF 9 1077936128 = (false, 12582912, -22, 0) := by decide +kernel
  rw [hsp]
  refine l_move rfl rfl rfl ?_
  refine l_extract rfl rfl rfl rfl ?_
  refine l_extract rfl rfl rfl rfl ?_
  refine l_alloc hw4 ta34 rfl rfl (fun b2_4 w5 hw5 => ?_)
  try clear hw4
  refine l_store_blks hw5 .head (.zero (.zero (.zero .nil))) rfl tz34 rfl rfl (by first | (simp [Value.oneCell']; done) | (intro u hu; simp only [List.mem_cons, List.not_mem_nil, or_false] at hu; rcases hu with rfl | rfl | rfl <;> first | rfl | assumption)) (fun w6 hw6 => ?_)
  try clear hw5
  refine l_assign rfl rfl rfl ?_
  refine l_nil ?_
  refine e_then ?_
  refine c_keep [1, 2, 3, 4, 5] (.cons rfl (.cons rfl (.cons rfl (.cons rfl (.cons rfl .nil))))) ?_
  refine c_seq ?_
  refine c_region ?_
  refine l_move rfl rfl rfl ?_
  refine l_eql rfl rfl rfl rfl ?_
  refine l_turn (s := 18) (v' := .bool true) rfl (by rfl) ?_
  refine l_move rfl rfl rfl ?_
  refine l_move rfl rfl rfl ?_
  first | refine l_notd rfl rfl rfl ?_ | refine l_not rfl rfl rfl ?_
  refine l_turn (s := 21) (v' := .bool true) rfl (by rfl) ?_
  refine l_pick_t rfl rfl rfl rfl ?_
  refine l_move rfl rfl rfl ?_
  refine l_move rfl rfl rfl ?_
  refine l_callp rfl rfl Try.func13 rfl rfl (.cons rfl .nil) (num3 _ _) ?_
  refine l_eql rfl rfl rfl rfl ?_
  refine l_turn (s := 26) (v' := .bool true) rfl (by rfl) ?_
  refine l_pick_t rfl rfl rfl rfl ?_
  refine l_move rfl rfl rfl ?_
  refine l_move rfl rfl rfl ?_
  refine l_callp rfl rfl Try.func13 rfl rfl (.cons rfl .nil) (num3 _ _) ?_
  refine l_eql rfl rfl rfl rfl ?_
  refine l_turn (s := 31) (v' := .bool true) rfl (by rfl) ?_
  refine l_pick_t rfl rfl rfl rfl ?_
  refine l_move rfl rfl rfl ?_
  refine l_load_agg hw6 mem0 rfl rfl Try.underlying34 rfl tz34 rfl (.take (.take (.take .nil))) ?_
  refine l_buildS rfl rfl pl34 ta34 (.one rfl rfl (by first | rfl | assumption) (.succ .zero) (.one rfl rfl (by first | rfl | assumption) (.succ (.succ .zero)) .nil)) ?_
  refine l_eqlA rfl rfl fl34 rfl rfl (.bool rfl rfl (.int rfl rfl (.int rfl rfl .nil))) ?_
  refine l_turn (s := 36) (v' := .bool true) rfl (by rfl) ?_
  refine l_pick_t rfl rfl rfl rfl ?_
  refine l_assign rfl rfl rfl ?_
  refine l_nil ?_
  refine e_then ?_
  refine c_keep [0] (.cons rfl .nil) ?_
  refine c_ret ?_
  refine e_done1 Try.results14 rfl ?_
  refine ⟨_, rfl, ?_⟩
  have hw7 := St.del (.tail (.tail .head)) hw6
  try clear hw6
  have hw8 := St.del (.tail .head) hw7
  try clear hw7
  have hw9 := St.del .head hw8
  try clear hw8
  exact ⟨rfl, hw9.grows⟩
theorem bitsShapesL (n a b : Int) (hn : -9223372036854775808 ≤ n ∧ n ≤ 9223372036854775807) (ha : 0 ≤ a ∧ a ≤ 18446744073709551615) (hb : 0 ≤ b ∧ b ≤ 18446744073709551615) (w : World) :
    CallsV P 9 [.int .i64 n, .int .u64 a, .int .u64 b] w fun r w' => r = .bool true ∧ Grow w w' [] := by
  refine enterW Try.func9 rfl Try.ntmps9 rfl ?_
  have hw0 := St.start w
  refine c_seq ?_
  refine c_region ?_
  refine l_assign rfl rfl rfl ?_
  refine l_nil ?_
  refine e_then ?_
  refine c_keep [0, 1, 2] (.cons rfl (.cons rfl (.cons rfl .nil))) ?_
  refine c_seq ?_
  refine c_region ?_
  refine l_move rfl rfl rfl ?_
  refine l_call rfl rfl Try.func10 rfl rfl (.cons rfl .nil) (kind3 n hn w) ?_
  rintro _ _ ⟨k, rfl, rfl⟩
  refine l_assign rfl rfl rfl ?_
  refine l_nil ?_
  refine e_then ?_
  refine c_keep [1, 2, 7] (.cons rfl (.cons rfl (.cons rfl .nil))) ?_
  refine c_seq ?_
  refine c_region ?_
  refine l_move rfl rfl rfl ?_
  refine l_move rfl rfl rfl ?_
  refine l_call rfl rfl Try.func25 rfl rfl (.cons rfl (.cons rfl .nil)) (classB k a ha w) ?_
  rintro _ w1 ⟨rfl, hG⟩
  have hw1 := hG _ _ _ _ hw0
  try clear hG hw0
  simp only [List.cons_append, List.nil_append] at hw1
  refine l_move rfl rfl rfl ?_
  refine l_extract rfl rfl rfl rfl ?_
  refine l_extract rfl rfl rfl rfl ?_
  refine l_assign rfl rfl rfl ?_
  refine l_assign rfl rfl rfl ?_
  refine l_nil ?_
  refine e_then ?_
  refine c_keep [1, 2, 7, 8, 9] (.cons rfl (.cons rfl (.cons rfl (.cons rfl (.cons rfl .nil))))) ?_
  refine c_seq ?_
  refine c_region ?_
  refine l_move rfl rfl rfl ?_
  refine l_move rfl rfl rfl ?_
  refine l_call rfl rfl Try.func30 rfl rfl (.cons rfl (.cons rfl .nil)) (class3 k a ha w1) ?_
  rintro _ w2 ⟨rfl, hG⟩
  have hw2 := hG _ _ _ _ hw1
  try clear hG hw1
  simp only [List.cons_append, List.nil_append] at hw2
  refine l_move rfl rfl rfl ?_
  refine l_extract rfl rfl rfl rfl ?_
  refine l_extract rfl rfl rfl rfl ?_
  refine l_assign rfl rfl rfl ?_
  refine l_assign rfl rfl rfl ?_
  refine l_nil ?_
  refine e_then ?_
  refine c_keep [1, 2, 7, 8, 9, 10, 11] (.cons rfl (.cons rfl (.cons rfl (.cons rfl (.cons rfl (.cons rfl (.cons rfl .nil))))))) ?_
  refine c_seq ?_
  refine c_region ?_
  refine l_move rfl rfl rfl ?_
  refine l_move rfl rfl rfl ?_
  refine l_call rfl rfl Try.func19 rfl rfl (.cons rfl (.cons rfl .nil)) (splitB k a ha w2) ?_
  rintro _ w3 ⟨rfl, hG⟩
  have hw3 := hG _ _ _ _ hw2
  try clear hG hw2
  simp only [List.cons_append, List.nil_append] at hw3
  refine l_move rfl rfl rfl ?_
  refine l_extract rfl rfl rfl rfl ?_
  refine l_extract rfl rfl rfl rfl ?_
  refine l_alloc hw3 ta34 rfl rfl (fun b4_6 w4 hw4 => ?_)
  try clear hw3
  refine l_store_blks hw4 .head (.zero (.zero (.zero .nil))) rfl tz34 rfl rfl (by first | (simp [Value.oneCell']; done) | (intro u hu; simp only [List.mem_cons, List.not_mem_nil, or_false] at hu; rcases hu with rfl | rfl | rfl <;> first | rfl | assumption)) (fun w5 hw5 => ?_)
  try clear hw4
  refine l_assign rfl rfl rfl ?_
  refine l_nil ?_
  refine e_then ?_
  refine c_keep [1, 2, 7, 8, 9, 10, 11, 12, 13] (.cons rfl (.cons rfl (.cons rfl (.cons rfl (.cons rfl (.cons rfl (.cons rfl (.cons rfl (.cons rfl .nil))))))))) ?_
  refine c_seq ?_
  refine c_region ?_
  refine l_move rfl rfl rfl ?_
  refine l_move rfl rfl rfl ?_
  refine l_call rfl rfl Try.func31 rfl rfl (.cons rfl (.cons rfl .nil)) (split3 k a ha w5) ?_
  rintro _ w6 ⟨rfl, hG⟩
  have hw6 := hG _ _ _ _ hw5
  try clear hG hw5
  simp only [List.cons_append, List.nil_append] at hw6
  refine l_move rfl rfl rfl ?_
  refine l_extract rfl rfl rfl rfl ?_
  refine l_extract rfl rfl rfl rfl ?_
  refine l_alloc hw6 ta34 rfl rfl (fun b5_6 w7 hw7 => ?_)
  try clear hw6
  refine l_store_blks hw7 .head (.zero (.zero (.zero .nil))) rfl tz34 rfl rfl (by first | (simp [Value.oneCell']; done) | (intro u hu; simp only [List.mem_cons, List.not_mem_nil, or_false] at hu; rcases hu with rfl | rfl | rfl <;> first | rfl | assumption)) (fun w8 hw8 => ?_)
  try clear hw7
  refine l_assign rfl rfl rfl ?_
  refine l_nil ?_
  refine e_then ?_
  refine c_keep [1, 2, 7, 8, 9, 10, 11, 12, 13, 14, 15] (.cons rfl (.cons rfl (.cons rfl (.cons rfl (.cons rfl (.cons rfl (.cons rfl (.cons rfl (.cons rfl (.cons rfl (.cons rfl .nil))))))))))) ?_
  refine c_seq ?_
  refine c_seq ?_
  refine c_region ?_
  refine l_move rfl rfl rfl ?_
  refine l_move rfl rfl rfl ?_
  refine l_neq rfl rfl rfl rfl ?_
  refine l_turn (s := 53) (v' := .bool false) rfl (by simp) ?_
  refine l_move rfl rfl rfl ?_
  refine l_move rfl rfl rfl ?_
  refine l_callp rfl rfl Try.func13 rfl rfl (.cons rfl .nil) (num3 _ _) ?_
  refine l_move rfl rfl rfl ?_
  refine l_neq rfl rfl rfl rfl ?_
  refine l_turn (s := 58) (v' := .bool false) rfl (by simp) ?_
  refine l_pick_f rfl rfl rfl rfl ?_
  refine l_move rfl rfl rfl ?_
  refine l_load_agg hw8 mem1 rfl rfl Try.underlying34 rfl tz34 rfl (.take (.take (.take .nil))) ?_
  refine l_load_agg hw8 mem0 rfl rfl Try.underlying34 rfl tz34 rfl (.take (.take (.take .nil))) ?_
  refine l_neqA rfl rfl fl34 rfl rfl (.bool rfl rfl (.int rfl rfl (.int rfl rfl .nil))) ?_
  refine l_turn (s := 63) (v' := .bool false) rfl (by simp) ?_
  refine l_pick_f rfl rfl rfl rfl ?_
  refine l_move rfl rfl rfl ?_
  refine l_move rfl rfl rfl ?_
  refine l_callp rfl rfl Try.func13 rfl rfl (.cons rfl .nil) (num3 _ _) ?_
  refine l_move rfl rfl rfl ?_
  refine l_neq rfl rfl rfl rfl ?_
  refine l_turn (s := 69) (v' := .bool false) rfl (by simp) ?_
  refine l_pick_f rfl rfl rfl rfl ?_
  refine l_nil ?_
  refine e_then ?_
  refine c_keep [1, 2, 7, 70] (.cons rfl (.cons rfl (.cons rfl (.cons rfl .nil)))) ?_
  refine c_cond_f rfl rfl ?_
  refine c_skip ?_
  refine e_then ?_
  refine c_keep [1, 2, 7] (.cons rfl (.cons rfl (.cons rfl .nil))) ?_
  refine c_seq ?_
  refine c_region ?_
  refine l_move rfl rfl rfl ?_
  refine l_move rfl rfl rfl ?_
  refine l_call rfl rfl Try.func18 rfl rfl (.cons rfl (.cons rfl .nil)) (nextB k a ha w8) ?_
  rintro _ w9 ⟨rfl, hG⟩
  have hw9 := hG _ _ _ _ hw8
  try clear hG hw8
  simp only [List.cons_append, List.nil_append] at hw9
  refine l_move rfl rfl rfl ?_
  refine l_extract rfl rfl rfl rfl ?_
  refine l_extract rfl rfl rfl rfl ?_
  refine l_assign rfl rfl rfl ?_
  refine l_assign rfl rfl rfl ?_
  refine l_nil ?_
  refine e_then ?_
  refine c_keep [1, 2, 7, 9, 16] (.cons rfl (.cons rfl (.cons rfl (.cons rfl (.cons rfl .nil))))) ?_
  refine c_seq ?_
  refine c_region ?_
  refine l_move rfl rfl rfl ?_
  refine l_move rfl rfl rfl ?_
  refine l_call rfl rfl Try.func32 rfl rfl (.cons rfl (.cons rfl .nil)) (next3 k a ha w9) ?_
  rintro _ w10 ⟨rfl, hG⟩
  have hw10 := hG _ _ _ _ hw9
  try clear hG hw9
  simp only [List.cons_append, List.nil_append] at hw10
  refine l_move rfl rfl rfl ?_
  refine l_extract rfl rfl rfl rfl ?_
  refine l_extract rfl rfl rfl rfl ?_
  refine l_assign rfl rfl rfl ?_
  refine l_assign rfl rfl rfl ?_
  refine l_nil ?_
  refine e_then ?_
  refine c_keep [1, 2, 7, 9, 11, 16, 17] (.cons rfl (.cons rfl (.cons rfl (.cons rfl (.cons rfl (.cons rfl (.cons rfl .nil))))))) ?_
  refine c_seq ?_
  refine c_region ?_
  refine l_move rfl rfl rfl ?_
  refine l_move rfl rfl rfl ?_
  refine l_call rfl rfl Try.func29 rfl rfl (.cons rfl (.cons rfl .nil)) (prevB k a ha w10) ?_
  rintro _ w11 ⟨rfl, hG⟩
  have hw11 := hG _ _ _ _ hw10
  try clear hG hw10
  simp only [List.cons_append, List.nil_append] at hw11
  refine l_move rfl rfl rfl ?_
  refine l_extract rfl rfl rfl rfl ?_
  refine l_extract rfl rfl rfl rfl ?_
  refine l_assign rfl rfl rfl ?_
  refine l_assign rfl rfl rfl ?_
  refine l_nil ?_
  refine e_then ?_
  refine c_keep [1, 2, 7, 9, 11, 13, 16, 17, 18] (.cons rfl (.cons rfl (.cons rfl (.cons rfl (.cons rfl (.cons rfl (.cons rfl (.cons rfl (.cons rfl .nil))))))))) ?_
  refine c_seq ?_
  refine c_region ?_
  refine l_move rfl rfl rfl ?_
  refine l_move rfl rfl rfl ?_
  refine l_call rfl rfl Try.func33 rfl rfl (.cons rfl (.cons rfl .nil)) (prev3 k a ha w11) ?_
  rintro _ w12 ⟨rfl, hG⟩
  have hw12 := hG _ _ _ _ hw11
  try clear hG hw11
  simp only [List.cons_append, List.nil_append] at hw12
  refine l_move rfl rfl rfl ?_
  refine l_extract rfl rfl rfl rfl ?_
  refine l_extract rfl rfl rfl rfl ?_
  refine l_assign rfl rfl rfl ?_
  refine l_assign rfl rfl rfl ?_
  refine l_nil ?_
  refine e_then ?_
  refine c_keep [1, 2, 7, 9, 11, 13, 15, 16, 17, 18, 19] (.cons rfl (.cons rfl (.cons rfl (.cons rfl (.cons rfl (.cons rfl (.cons rfl (.cons rfl (.cons rfl (.cons rfl (.cons rfl .nil))))))))))) ?_
  refine c_seq ?_
  refine c_seq ?_
  refine c_region ?_
  refine l_move rfl rfl rfl ?_
  refine l_move rfl rfl rfl ?_
  refine l_neq rfl rfl rfl rfl ?_
  refine l_turn (s := 97) (v' := .bool false) rfl (by simp) ?_
  refine l_move rfl rfl rfl ?_
  refine l_move rfl rfl rfl ?_
  refine l_callp rfl rfl Try.func13 rfl rfl (.cons rfl .nil) (num3 _ _) ?_
  refine l_move rfl rfl rfl ?_
  refine l_neq rfl rfl rfl rfl ?_
  refine l_turn (s := 102) (v' := .bool false) rfl (by simp) ?_
  refine l_pick_f rfl rfl rfl rfl ?_
  refine l_move rfl rfl rfl ?_
  refine l_move rfl rfl rfl ?_
  refine l_move rfl rfl rfl ?_
  refine l_neq rfl rfl rfl rfl ?_
  refine l_turn (s := 107) (v' := .bool false) rfl (by simp) ?_
  refine l_pick_f rfl rfl rfl rfl ?_
  refine l_move rfl rfl rfl ?_
  refine l_move rfl rfl rfl ?_
  refine l_callp rfl rfl Try.func13 rfl rfl (.cons rfl .nil) (num3 _ _) ?_
  refine l_move rfl rfl rfl ?_
  refine l_neq rfl rfl rfl rfl ?_
  refine l_turn (s := 113) (v' := .bool false) rfl (by simp) ?_
  refine l_pick_f rfl rfl rfl rfl ?_
  refine l_nil ?_
  refine e_then ?_
  refine c_keep [1, 2, 7, 114] (.cons rfl (.cons rfl (.cons rfl (.cons rfl .nil)))) ?_
  refine c_cond_f rfl rfl ?_
  refine c_skip ?_
  refine e_then ?_
  refine c_keep [1, 2, 7] (.cons rfl (.cons rfl (.cons rfl .nil))) ?_
  refine c_seq ?_
  refine c_region ?_
  refine l_move rfl rfl rfl ?_
  refine l_move rfl rfl rfl ?_
  refine l_move rfl rfl rfl ?_
  refine l_call rfl rfl Try.func27 rfl rfl (.cons rfl (.cons rfl (.cons rfl .nil))) (cmpB k a b ha hb w12) ?_
  rintro _ w13 ⟨rfl, hG⟩
  have hw13 := hG _ _ _ _ hw12
  try clear hG hw12
  simp only [List.cons_append, List.nil_append] at hw13
  refine l_move rfl rfl rfl ?_
  refine l_extract rfl rfl rfl rfl ?_
  refine l_extract rfl rfl rfl rfl ?_
  refine l_assign rfl rfl rfl ?_
  refine l_assign rfl rfl rfl ?_
  refine l_nil ?_
  refine e_then ?_
  refine c_keep [1, 2, 7, 9, 20] (.cons rfl (.cons rfl (.cons rfl (.cons rfl (.cons rfl .nil))))) ?_
  refine c_seq ?_
  refine c_region ?_
  refine l_move rfl rfl rfl ?_
  refine l_move rfl rfl rfl ?_
  refine l_move rfl rfl rfl ?_
  refine l_call rfl rfl Try.func34 rfl rfl (.cons rfl (.cons rfl (.cons rfl .nil))) (cmp3 k a b ha hb w13) ?_
  rintro _ w14 ⟨rfl, hG⟩
  have hw14 := hG _ _ _ _ hw13
  try clear hG hw13
  simp only [List.cons_append, List.nil_append] at hw14
  refine l_move rfl rfl rfl ?_
  refine l_extract rfl rfl rfl rfl ?_
  refine l_extract rfl rfl rfl rfl ?_
  refine l_assign rfl rfl rfl ?_
  refine l_assign rfl rfl rfl ?_
  refine l_nil ?_
  refine e_then ?_
  refine c_keep [1, 7, 9, 11, 20, 21] (.cons rfl (.cons rfl (.cons rfl (.cons rfl (.cons rfl (.cons rfl .nil)))))) ?_
  refine c_seq ?_
  refine c_region ?_
  refine l_move rfl rfl rfl ?_
  refine l_call rfl rfl Try.func35 rfl rfl (.cons rfl .nil) (nanV k w14) ?_
  rintro _ w15 ⟨vn, en, rfl, hNa, hG⟩
  have hw15 := hG _ _ _ _ hw14
  try clear hG hw14
  simp only [List.cons_append, List.nil_append] at hw15
  refine l_move rfl rfl rfl ?_
  refine l_extract rfl rfl rfl rfl ?_
  refine l_extract rfl rfl rfl rfl ?_
  refine l_assign rfl rfl rfl ?_
  refine l_assign rfl rfl rfl ?_
  refine l_nil ?_
  refine e_then ?_
  refine c_keep [1, 7, 9, 11, 13, 20, 21, 22] (.cons rfl (.cons rfl (.cons rfl (.cons rfl (.cons rfl (.cons rfl (.cons rfl (.cons rfl .nil)))))))) ?_
  refine c_seq ?_
  refine c_region ?_
  refine l_move rfl rfl rfl ?_
  refine l_move rfl rfl rfl ?_
  refine l_bits rfl rfl rfl rfl rfl (and_mask 1 (d := 2) (by omega) (by omega) (by decide) (by decide)) ?_
  refine l_eql rfl rfl rfl rfl ?_
  refine l_call rfl rfl Try.func36 rfl rfl (.cons rfl (.cons rfl .nil)) (infV k _ w15) ?_
  rintro _ w16 ⟨vi, ei, rfl, hIn, hG⟩
  have hw16 := hG _ _ _ _ hw15
  try clear hG hw15
  simp only [List.cons_append, List.nil_append] at hw16
  refine l_move rfl rfl rfl ?_
  refine l_extract rfl rfl rfl rfl ?_
  refine l_extract rfl rfl rfl rfl ?_
  refine l_assign rfl rfl rfl ?_
  refine l_assign rfl rfl rfl ?_
  refine l_nil ?_
  refine e_then ?_
  refine c_keep [1, 7, 9, 11, 13, 20, 21, 22, 23, 24] (.cons rfl (.cons rfl (.cons rfl (.cons rfl (.cons rfl (.cons rfl (.cons rfl (.cons rfl (.cons rfl (.cons rfl .nil)))))))))) ?_
  refine c_seq ?_
  refine c_seq ?_
  refine c_region ?_
  obtain rfl := two_err hNa hIn
  refine l_move rfl rfl rfl ?_
  refine l_move rfl rfl rfl ?_
  refine l_neq rfl rfl rfl rfl ?_
  refine l_turn (s := 144) (v' := .bool false) rfl (by simp) ?_
  refine l_move rfl rfl rfl ?_
  refine l_move rfl rfl rfl ?_
  refine l_callp rfl rfl Try.func13 rfl rfl (.cons rfl .nil) (num3 _ _) ?_
  refine l_move rfl rfl rfl ?_
  refine l_neq rfl rfl rfl rfl ?_
  refine l_turn (s := 149) (v' := .bool false) rfl (by simp) ?_
  refine l_pick_f rfl rfl rfl rfl ?_
  refine l_move rfl rfl rfl ?_
  refine l_move rfl rfl rfl ?_
  refine l_move rfl rfl rfl ?_
  refine l_neq rfl rfl rfl rfl ?_
  refine l_turn (s := 154) (v' := .bool false) rfl (by simp) ?_
  refine l_pick_f rfl rfl rfl rfl ?_
  refine l_nil ?_
  refine e_then ?_
  refine c_keep [1, 7, 13, 22, 23, 155] (.cons rfl (.cons rfl (.cons rfl (.cons rfl (.cons rfl (.cons rfl .nil)))))) ?_
  refine c_cond_f rfl rfl ?_
  refine c_skip ?_
  refine e_then ?_
  refine c_keep [1, 7, 13, 22, 23] (.cons rfl (.cons rfl (.cons rfl (.cons rfl (.cons rfl .nil))))) ?_
  refine c_seq ?_
  refine c_seq ?_
  refine c_region ?_
  refine l_move rfl rfl rfl ?_
  refine l_callp rfl rfl Try.func37 rfl rfl (.cons rfl (.cons rfl .nil)) (check3 k 0 (by omega) w16) ?_
  refine l_neq rfl rfl rfl rfl ?_
  refine l_nil ?_
  refine e_then ?_
  refine c_keep [1, 7, 13, 22, 23, 158] (.cons rfl (.cons rfl (.cons rfl (.cons rfl (.cons rfl (.cons rfl .nil)))))) ?_
  first | refine c_cond rfl (fun hc3 => ?_) (fun hc3 => ?_) | refine c_condb rfl (fun hc3 => ?_) (fun hc3 => ?_)
  · skip
    refine c_seq ?_
    refine c_region ?_
    have hno := kd_no (k := k) (by assumption)
    obtain ⟨rfl, rfl⟩ := hNa.no hno
    obtain ⟨rfl, _⟩ := hIn.no hno
    refine l_move rfl rfl rfl ?_
    refine l_callp rfl rfl Try.func13 rfl rfl (.cons rfl .nil) (num3 _ _) ?_
    refine l_eql rfl rfl rfl rfl ?_
    refine l_turn (s := 161) (v' := .bool true) rfl (by rfl) ?_
    refine l_move rfl rfl rfl ?_
    refine l_move rfl rfl rfl ?_
    refine l_eql rfl rfl rfl rfl ?_
    refine l_turn (s := 164) (v' := .bool true) rfl (by rfl) ?_
    refine l_pick_t rfl rfl rfl rfl ?_
    refine l_move rfl rfl rfl ?_
    refine l_move rfl rfl rfl ?_
    refine l_eql rfl rfl rfl rfl ?_
    refine l_turn (s := 168) (v' := .bool true) rfl (by rfl) ?_
    refine l_pick_t rfl rfl rfl rfl ?_
    refine l_move rfl rfl rfl ?_
    refine l_call rfl rfl Try.func14 rfl rfl .nil (wakes3 w16) ?_
    rintro _ w17 ⟨rfl, hG⟩
    have hw17 := hG _ _ _ _ hw16
    try clear hG hw16
    simp only [List.cons_append, List.nil_append] at hw17
    refine l_turn (s := 171) (v' := .bool true) rfl (by rfl) ?_
    refine l_pick_t rfl rfl rfl rfl ?_
    refine l_assign rfl rfl rfl ?_
    refine l_nil ?_
    refine e_then ?_
    refine c_keep [6] (.cons rfl .nil) ?_
    refine c_ret ?_
    refine e_then_ret ?_
    refine e_done1 Try.results9 rfl ?_
    refine ⟨_, rfl, ?_⟩
    have hw18 := St.del (.tail .head) hw17
    try clear hw17
    have hw19 := St.del .head hw18
    try clear hw18
    exact ⟨rfl, hw19.grows⟩
  · skip
    refine c_skip ?_
    refine e_then ?_
    refine c_keep [1, 7, 13, 22, 23] (.cons rfl (.cons rfl (.cons rfl (.cons rfl (.cons rfl .nil))))) ?_
    refine c_seq ?_
    refine c_region ?_
    obtain ⟨d, hk, _⟩ := chk_ok (k := k) (b := 0) (by omega) (by omega)
    obtain ⟨rfl, rfl⟩ := hNa.at hk
    obtain ⟨rfl, _⟩ := hIn.at hk
    refine l_move rfl rfl rfl ?_
    refine l_callp rfl rfl Try.func13 rfl rfl (.cons rfl .nil) (num3 _ _) ?_
    refine l_eql rfl rfl rfl rfl ?_
    refine l_turn (s := 175) (v' := .bool true) rfl (by rfl) ?_
    refine l_move rfl rfl rfl ?_
    refine l_move rfl rfl rfl ?_
    refine l_move rfl rfl rfl ?_
    refine l_callp rfl rfl Try.func38 rfl rfl (.cons rfl .nil) (no3 k d hk w16) ?_
    refine l_eql rfl rfl rfl rfl ?_
    refine l_turn (s := 180) (v' := .bool true) rfl (by simp) ?_
    refine l_pick_t rfl rfl rfl rfl ?_
    refine l_move rfl rfl rfl ?_
    refine l_move rfl rfl rfl ?_
    refine l_move rfl rfl rfl ?_
    refine l_move rfl rfl rfl ?_
    refine l_bits rfl rfl rfl rfl rfl (and_mask 1 (d := 2) (by omega) (by omega) (by decide) (by decide)) ?_
    refine l_eql rfl rfl rfl rfl ?_
    refine l_callp rfl rfl Try.func28 rfl rfl (.cons rfl (.cons rfl .nil)) (inf3 k d hk _ w16) ?_
    refine l_eql rfl rfl rfl rfl ?_
    refine l_turn (s := 189) (v' := .bool true) rfl (by simp) ?_
    refine l_pick_t rfl rfl rfl rfl ?_
    refine l_move rfl rfl rfl ?_
    refine l_call rfl rfl Try.func14 rfl rfl .nil (wakes3 w16) ?_
    rintro _ w20 ⟨rfl, hG⟩
    have hw20 := hG _ _ _ _ hw16
    try clear hG hw16
    simp only [List.cons_append, List.nil_append] at hw20
    refine l_turn (s := 192) (v' := .bool true) rfl (by rfl) ?_
    refine l_pick_t rfl rfl rfl rfl ?_
    refine l_assign rfl rfl rfl ?_
    refine l_nil ?_
    refine e_then ?_
    refine c_keep [6] (.cons rfl .nil) ?_
    refine c_ret ?_
    refine e_done1 Try.results9 rfl ?_
    refine ⟨_, rfl, ?_⟩
    have hw21 := St.del (.tail .head) hw20
    try clear hw20
    have hw22 := St.del .head hw21
    try clear hw21
    exact ⟨rfl, hw22.grows⟩
end Go.Proofs.Ytidbonodfmicgaa.W
