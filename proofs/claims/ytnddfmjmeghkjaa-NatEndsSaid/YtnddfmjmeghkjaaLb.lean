/- walks of the laws' small parts and of NatTexts -/
import Derived.Test.YtnddfmjmeghkjaaLa
import Derived.Test.YtnddfmjmeghkjaaFh
set_option linter.unusedVariables false
set_option linter.unusedSimpArgs false
set_option maxRecDepth 10000
namespace Go.Proofs.Ytnddfmjmeghkjaa.W
open Go.Vc Go.RowKit

theorem wake_mul {a b : Value} {w : World} (ha : IV w a (ints .u64 [18446744073709551615])) (hb : IV w b (ints .u64 [2, 0])) : CallsV P 30 [a, b] w fun r w' => ∃ v, r = .tuple #[v, .int .i64 0] ∧ Grow w w' [As.ri 22 .u64 v [18446744073709551614, 1]] := by
  refine (mulN a b [18446744073709551615] [2, 0] (U.one (by omega)) (fun x hx => by simp at hx; omega) (by simp) (by simp) w ha hb).mono ?_
  rintro r w' ⟨v, ls, rfl, hcn, hG⟩
  have h : ¬ (8192 < Ma.blen (nv [18446744073709551615]) ∨ 8192 < Ma.blen (nv [2, 0]) ∨ 8192 < Ma.blen (nv [18446744073709551615] * nv [2, 0])) := by decide +kernel
  rw [if_neg h] at hcn ⊢
  have : ls = [18446744073709551614, 1] := hcn.eq (by omega) ⟨fun x hx => by simp at hx; omega, ⟨fun h => by simp at h, fun _ => by omega, trivial⟩, by decide +kernel⟩
  subst this
  exact ⟨v, rfl, hG⟩
theorem wake_parse {w : World} : CallsV P 21 [str [120]] w fun r w' => ∃ v ls, r = .tuple #[v, .int .i64 20] ∧ Grow w w' [As.ri 22 .u64 v ls] := by
  refine (parseN [120] (by simp) w).mono ?_
  rintro r w' ⟨v, ls, rfl, hcn, hG⟩
  rw [parsed_bad (.inr ⟨0, by simp, by decide⟩)]
  exact ⟨v, ls, rfl, hG⟩
theorem cnLen {l : List Int} {n : Int} (h : Ma.Cn 18446744073709551616 l n) {k : Nat} (hb : Ma.blen n ≤ k) : 64 * l.length ≤ k + 64 := by
  rcases Nat.eq_zero_or_pos l.length with h0 | h0
  · omega
  · have := Ma.blen_top (s := 64) h.dg h.tr h0
    rw [show ((2 : Int) ^ 64) = 18446744073709551616 from rfl, h.val] at this
    have := Ma.blen_nonneg (l.getD (l.length - 1) 0)
    omega
theorem parsed_blen (t : List UInt8) : Ma.blen (parsed t).2 ≤ 8192 := by
  unfold parsed
  split
  · decide
  · split
    · decide
    · show Ma.blen (pv t) ≤ 8192
      omega
theorem U.take {l : List Int} (h : U l) (n : Nat) : U (l.take n) := fun x hx => h x (List.mem_of_mem_take hx)

theorem numL (x : Int) (w : World) :
    CallsV P 12 [.int .i64 x] w fun r w' => r = .int .i64 x ∧ w = w' := by
  refine enterW Try.func12 rfl Try.ntmps12 rfl ?_
  refine c_seq ?_
  refine c_region ?_
  refine l_assign rfl rfl rfl ?_
  refine l_nil ?_
  refine e_then ?_
  refine c_keep [0] (.cons rfl .nil) ?_
  refine c_seq ?_
  refine c_region ?_
  refine l_move rfl rfl rfl ?_
  refine l_assign rfl rfl rfl ?_
  refine l_nil ?_
  refine e_then ?_
  refine c_keep [2] (.cons rfl .nil) ?_
  refine c_ret ?_
  refine e_done1 Try.results12 rfl ?_
  refine ⟨_, rfl, ?_⟩
  exact ⟨rfl, rfl⟩
theorem cutL (v : Value) (l : List Int) (w : World) (hv : IV w v (ints .u64 l)) :
    CallsV P 20 [v] w fun r w' => IV w r (ints .u64 (l.take 140)) ∧ w = w' := by
  refine enterW Try.func20 rfl Try.ntmps20 rfl ?_
  refine c_seq ?_
  refine c_region ?_
  refine l_assign rfl rfl rfl ?_
  refine l_nil ?_
  refine e_then ?_
  refine c_keep [0] (.cons rfl .nil) ?_
  refine c_seq ?_
  refine c_seq ?_
  refine c_region ?_
  refine l_move rfl rfl rfl ?_
  refine v_leni rfl rfl Try.underlying25 rfl (by first | exact hv | assumption) ?_
  refine l_gtr rfl rfl rfl rfl ?_
  refine l_nil ?_
  refine e_then ?_
  refine c_keep [0, 5] (.cons rfl (.cons rfl .nil)) ?_
  first | refine c_cond rfl (fun hc0 => ?_) (fun hc0 => ?_) | refine c_condb rfl (fun hc0 => ?_) (fun hc0 => ?_)
  · skip
    refine c_seq ?_
    refine c_region ?_
    refine l_move rfl rfl rfl ?_
    refine v_cut (l := 0) (h := 140) rfl rfl Try.underlying25 tz22 rfl rfl rfl rfl (by first | exact hv | assumption) (by first | rfl | (simp; done) | (simp; omega)) (by first | rfl | (simp; done) | (simp; omega)) (.inl rfl) (by simp) (by omega) (by first | omega | (simp; omega) | (simp; done)) (fun v2_1 h2_1 ho2_1 => ?_)
    refine l_assign rfl rfl rfl ?_
    refine l_nil ?_
    refine e_then ?_
    refine c_keep [2] (.cons rfl .nil) ?_
    refine c_ret ?_
    refine e_then_ret ?_
    refine e_done1 Try.results20 rfl ?_
    refine ⟨_, rfl, ?_⟩
    refine ⟨?_, rfl⟩
    rw [List.drop_zero, ← List.map_take] at h2_1
    exact h2_1
  · skip
    refine c_skip ?_
    refine e_then ?_
    refine c_keep [0] (.cons rfl .nil) ?_
    refine c_seq ?_
    refine c_region ?_
    refine l_move rfl rfl rfl ?_
    refine l_assign rfl rfl rfl ?_
    refine l_nil ?_
    refine e_then ?_
    refine c_keep [2] (.cons rfl .nil) ?_
    refine c_ret ?_
    refine e_done1 Try.results20 rfl ?_
    refine ⟨_, rfl, ?_⟩
    refine ⟨?_, rfl⟩
    rw [List.take_of_length_le (by omega)]
    exact hv
theorem wakesL  (w : World) :
    CallsV P 19 [] w fun r w' => r = .bool true ∧ Grow w w' [] := by
  refine enterW Try.func19 rfl Try.ntmps19 rfl ?_
  have hw0 := St.start w
  refine c_seq ?_
  refine c_region ?_
  refine l_assign rfl rfl rfl ?_
  refine l_nil ?_
  refine e_then ?_
  refine c_keep [] .nil ?_
  refine c_seq ?_
  refine c_region ?_
  refine v_lit hw0 rfl rfl Try.underlying25 ti22 rfl (.cons rfl (by first | rfl | assumption) .nil) rfl rfl rfl (fun b1_0 w1 hw1 => ?_)
  try clear hw0
  refine v_lit hw1 rfl rfl Try.underlying25 ti22 rfl (.cons rfl (by first | rfl | assumption) (.cons rfl (by first | rfl | assumption) .nil)) rfl rfl rfl (fun b1_1 w2 hw2 => ?_)
  try clear hw1
  refine l_call rfl rfl Try.func30 rfl rfl (.cons rfl (.cons rfl .nil)) (wake_mul (hw2.ibl mem1) (hw2.ibl mem0)) ?_
  rintro _ w3 ⟨va, rfl, hG⟩
  have hw3 := hG _ _ _ _ hw2
  try clear hG hw2
  simp only [List.cons_append, List.nil_append] at hw3
  refine l_move rfl rfl rfl ?_
  refine l_extract rfl rfl rfl rfl ?_
  refine l_extract rfl rfl rfl rfl ?_
  refine l_assign rfl rfl rfl ?_
  refine l_assign rfl rfl rfl ?_
  refine l_nil ?_
  refine e_then ?_
  refine c_keep [1, 2] (.cons rfl (.cons rfl .nil)) ?_
  refine c_seq ?_
  refine c_region ?_
  refine l_call rfl rfl Try.func21 rfl rfl (.cons rfl .nil) (wake_parse (w := w3)) ?_
  rintro _ w4 ⟨vp, lp, rfl, hG⟩
  have hw4 := hG _ _ _ _ hw3
  try clear hG hw3
  simp only [List.cons_append, List.nil_append] at hw4
  refine l_move rfl rfl rfl ?_
  refine l_extract rfl rfl rfl rfl ?_
  refine l_extract rfl rfl rfl rfl ?_
  refine l_assign rfl rfl rfl ?_
  refine l_assign rfl rfl rfl ?_
  refine l_nil ?_
  refine e_then ?_
  refine c_keep [1, 2, 4] (.cons rfl (.cons rfl (.cons rfl .nil))) ?_
  refine c_seq ?_
  refine c_region ?_
  refine l_move rfl rfl rfl ?_
  refine l_callp rfl rfl Try.func12 rfl rfl (.cons rfl .nil) (numL _ _) ?_
  refine l_eql rfl rfl rfl rfl ?_
  refine l_turn (s := 17) (v' := .bool true) rfl (by rfl) ?_
  refine l_move rfl rfl rfl ?_
  refine l_move rfl rfl rfl ?_
  refine v_lit hw4 rfl rfl Try.underlying25 ti22 rfl (.cons rfl (by first | rfl | assumption) (.cons rfl (by first | rfl | assumption) .nil)) rfl rfl rfl (fun b3_5 w5 hw5 => ?_)
  try clear hw4
  refine l_call rfl rfl Try.func13 rfl rfl (.cons rfl (.cons rfl .nil)) (wordsK _ _ [18446744073709551614, 1] [18446744073709551614, 1] (fun x hx => by simp at hx; omega) (fun x hx => by simp at hx; omega) (by simp) (by simp) w5 (hw5.io mem2) (hw5.ibl mem0)) ?_
  rintro _ w6 ⟨rfl, hG⟩
  have hw6 := hG _ _ _ _ hw5
  try clear hG hw5
  simp only [List.cons_append, List.nil_append] at hw6
  refine l_turn (s := 21) (v' := .bool true) rfl (by rw [decide_eq_true rfl]) ?_
  refine l_pick_t rfl rfl rfl rfl ?_
  refine l_move rfl rfl rfl ?_
  refine l_move rfl rfl rfl ?_
  refine l_callp rfl rfl Try.func12 rfl rfl (.cons rfl .nil) (numL _ _) ?_
  refine l_eql rfl rfl rfl rfl ?_
  refine l_turn (s := 26) (v' := .bool true) rfl (by rfl) ?_
  refine l_pick_t rfl rfl rfl rfl ?_
  refine l_assign rfl rfl rfl ?_
  refine l_nil ?_
  refine e_then ?_
  refine c_keep [0] (.cons rfl .nil) ?_
  refine c_ret ?_
  refine e_done1 Try.results19 rfl ?_
  refine ⟨_, rfl, ?_⟩
  have hw7 := St.del (.tail (.tail (.tail (.tail .head)))) hw6
  try clear hw6
  have hw8 := St.del (.tail (.tail (.tail .head))) hw7
  try clear hw7
  have hw9 := St.del (.tail (.tail .head)) hw8
  try clear hw8
  have hw10 := St.del (.tail .head) hw9
  try clear hw9
  have hw11 := St.del .head hw10
  try clear hw10
  exact ⟨rfl, hw11.grows⟩
theorem natTextsL (t : List UInt8) (v : Value) (l : List Int) (hU : U l) (w : World) (hv : IV w v (ints .u64 l)) :
    CallsV P 4 [str t, v] w fun r w' => r = .bool true ∧ Grow w w' [] := by
  refine enterW Try.func4 rfl Try.ntmps4 rfl ?_
  have hw0 := St.start w
  refine c_seq ?_
  refine c_region ?_
  refine l_assign rfl rfl rfl ?_
  refine l_nil ?_
  refine e_then ?_
  refine c_keep [0, 1] (.cons rfl (.cons rfl .nil)) ?_
  refine c_seq ?_
  refine c_region ?_
  refine l_move rfl rfl rfl ?_
  refine l_call rfl rfl Try.func20 rfl rfl (.cons rfl .nil) (cutL v l w hv) ?_
  rintro a _ ⟨hv2, rfl⟩
  refine l_assign rfl rfl rfl ?_
  refine l_nil ?_
  refine e_then ?_
  refine c_keep [0, 1] (.cons rfl (.cons rfl .nil)) ?_
  refine c_cutk (ι := List UInt8) (fun (t2 : List UInt8) (w' : World) => St w w.heap.size None' ([]) w' ∧ t2.length ≤ 3000) (fun (t2 : List UInt8) => [(0, str t2)]) [1] (.cons rfl .nil) ?_ ?_
  · skip
    refine c_seq ?_
    refine c_region ?_
    refine l_move rfl rfl rfl ?_
    refine l_lenstr rfl rfl Try.underlying9 rfl ?_
    refine l_gtr rfl rfl rfl rfl ?_
    refine l_nil ?_
    refine e_then ?_
    refine c_keep [0, 1, 13] (.cons rfl (.cons rfl (.cons rfl .nil))) ?_
    first | refine c_cond rfl (fun hc0 => ?_) (fun hc0 => ?_) | refine c_condb rfl (fun hc0 => ?_) (fun hc0 => ?_)
    · skip
      refine c_region ?_
      refine l_move rfl rfl rfl ?_
      refine l_slices (l := 0) (h := 3000) rfl rfl Try.underlying9 rfl rfl rfl (by first | rfl | (simp; done) | (simp; omega)) (by first | rfl | (simp; done) | (simp; omega)) (by omega) (by first | omega | (simp; omega) | (simp; done)) ?_
      refine l_assign rfl rfl rfl ?_
      refine l_nil ?_
      refine e_meetk (t.take 3000) ?_ (.cons rfl .nil) ?_
      · exact ⟨hw0, by rw [List.length_take]; omega⟩
      · exact (.cons rfl (by first | rfl | (refine congrArg (Value.int _) ?_; omega)) .nil)
    · skip
      refine c_skip ?_
      refine e_meetk (t) ?_ (.cons rfl .nil) ?_
      · exact ⟨hw0, by omega⟩
      · exact (.cons rfl (by first | rfl | (refine congrArg (Value.int _) ?_; omega)) .nil)
  rintro t2 w1 ⟨hw1, ht2⟩
  show RunC P _ _ _ (_ :: _) _
  refine c_seq ?_
  refine c_region ?_
  refine l_move rfl rfl rfl ?_
  refine l_call rfl rfl Try.func21 rfl rfl (.cons rfl .nil) (parseN t2 (by omega) w1) ?_
  rintro _ w2 ⟨vx, lx, rfl, hcx, hG⟩
  have hw2 := hG _ _ _ _ hw1
  try clear hG hw1
  simp only [List.cons_append, List.nil_append] at hw2
  refine l_move rfl rfl rfl ?_
  refine l_extract rfl rfl rfl rfl ?_
  refine l_extract rfl rfl rfl rfl ?_
  refine l_assign rfl rfl rfl ?_
  refine l_assign rfl rfl rfl ?_
  refine l_nil ?_
  refine e_then ?_
  refine c_keep [0, 1, 5, 6] (.cons rfl (.cons rfl (.cons rfl (.cons rfl .nil)))) ?_
  refine c_seq ?_
  refine c_region ?_
  refine l_move rfl rfl rfl ?_
  refine l_call rfl rfl Try.func22 rfl rfl (.cons rfl .nil) (parseR t2 (by omega) w2) ?_
  rintro _ w3 ⟨vy, ly, rfl, hcy, hG⟩
  have hw3 := hG _ _ _ _ hw2
  try clear hG hw2
  simp only [List.cons_append, List.nil_append] at hw3
  refine l_move rfl rfl rfl ?_
  refine l_extract rfl rfl rfl rfl ?_
  refine l_extract rfl rfl rfl rfl ?_
  refine l_assign rfl rfl rfl ?_
  refine l_assign rfl rfl rfl ?_
  refine l_nil ?_
  refine e_then ?_
  refine c_keep [1, 5, 6, 7, 8] (.cons rfl (.cons rfl (.cons rfl (.cons rfl (.cons rfl .nil))))) ?_
  refine c_seq ?_
  refine c_region ?_
  refine l_move rfl rfl rfl ?_
  refine l_callp rfl rfl Try.func12 rfl rfl (.cons rfl .nil) (numL _ _) ?_
  refine l_move rfl rfl rfl ?_
  refine l_eql rfl rfl rfl rfl ?_
  refine l_turn (s := 29) (v' := .bool true) rfl (by rw [decide_eq_true rfl]) ?_
  refine l_move rfl rfl rfl ?_
  refine l_move rfl rfl rfl ?_
  refine l_move rfl rfl rfl ?_
  refine l_call rfl rfl Try.func13 rfl rfl (.cons rfl (.cons rfl .nil)) (wordsK _ _ lx ly (cnU hcx) (cnU hcy) (by have := cnLen hcx (k := 8192) (parsed_blen t2); omega) (by have := cnLen hcy (k := 8192) (parsed_blen t2); omega) w3 (hw3.io mem1) (hw3.io mem0)) ?_
  rintro _ w4 ⟨rfl, hG⟩
  have hw4 := hG _ _ _ _ hw3
  try clear hG hw3
  simp only [List.cons_append, List.nil_append] at hw4
  refine l_turn (s := 33) (v' := .bool true) rfl (by rw [decide_eq_true (hcx.eq (by omega) hcy)]) ?_
  refine l_pick_t rfl rfl rfl rfl ?_
  refine l_move rfl rfl rfl ?_
  refine l_move rfl rfl rfl ?_
  refine l_call rfl rfl Try.func23 rfl rfl (.cons rfl .nil) (textN a (l.take 140) (hU.take 140) (by rw [List.length_take]; omega) w4 (hw4.iarg hv2)) ?_
  rintro _ w5 ⟨rfl, hG⟩
  have hw5 := hG _ _ _ _ hw4
  try clear hG hw4
  simp only [List.cons_append, List.nil_append] at hw5
  refine l_move rfl rfl rfl ?_
  refine l_call rfl rfl Try.func24 rfl rfl (.cons rfl .nil) (textR a (l.take 140) (hU.take 140) (by rw [List.length_take]; omega) w5 (hw5.iarg hv2)) ?_
  rintro _ w6 ⟨rfl, hG⟩
  have hw6 := hG _ _ _ _ hw5
  try clear hG hw5
  simp only [List.cons_append, List.nil_append] at hw6
  refine l_eqls rfl rfl rfl rfl ?_
  refine l_turn (s := 40) (v' := .bool true) rfl (by rw [decide_eq_true rfl]) ?_
  refine l_pick_t rfl rfl rfl rfl ?_
  refine l_move rfl rfl rfl ?_
  refine l_call rfl rfl Try.func19 rfl rfl .nil (wakesL w6) ?_
  rintro _ w7 ⟨rfl, hG⟩
  have hw7 := hG _ _ _ _ hw6
  try clear hG hw6
  simp only [List.cons_append, List.nil_append] at hw7
  refine l_turn (s := 43) (v' := .bool true) rfl (by rfl) ?_
  refine l_pick_t rfl rfl rfl rfl ?_
  refine l_assign rfl rfl rfl ?_
  refine l_nil ?_
  refine e_then ?_
  refine c_keep [4] (.cons rfl .nil) ?_
  refine c_ret ?_
  refine e_done1 Try.results4 rfl ?_
  refine ⟨_, rfl, ?_⟩
  have hw8 := St.del (.tail .head) hw7
  try clear hw7
  have hw9 := St.del .head hw8
  try clear hw8
  exact ⟨rfl, hw9.grows⟩
end Go.Proofs.Ytnddfmjmeghkjaa.W
