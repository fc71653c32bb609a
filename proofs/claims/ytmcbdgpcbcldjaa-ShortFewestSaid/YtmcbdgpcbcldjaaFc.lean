/- walks of nat.Len, long, told, at, clone, Of, From, Add -/
import Derived.Test.YtmcbdgpcbcldjaaFb
set_option linter.unusedVariables false
set_option linter.unusedSimpArgs false
set_option maxRecDepth 10000
namespace Go.Proofs.Ytmcbdgpcbcldjaa.W
open Go.Vc Go.RowKit
theorem lenN (A : Option Addr) (c : Nat) (l : List Int) (hU : U l) (hL : l.length ≤ 17592186044416) (w : World) (hv : IV w (.slice A (ints .u64 l).length c) (ints .u64 l)) :
    CallsV P 56 [.slice A (ints .u64 l).length c] w fun r w' => r = .int .i64 (Ma.blen (nv l)) ∧ w = w' := by
  refine enterW Try.func56 rfl Try.ntmps56 rfl ?_
  have hv2 := trim_iv hv
  have ht := Ma.tr_take l
  have hU2 : U (Ma.tr l) := U.of_dg hU.dg.tr
  have htv : nv (Ma.tr l) = nv l := Ma.tr_val _ l
  refine c_seq ?_
  refine c_region ?_
  refine l_assign rfl rfl rfl ?_
  refine l_nil ?_
  refine e_then ?_
  refine c_keep [0] (.cons rfl .nil) ?_
  refine c_seq ?_
  refine c_region ?_
  refine l_move rfl rfl rfl ?_
  refine l_callp rfl rfl Try.func71 rfl rfl (.cons rfl .nil) (trim A c l hU hL w hv) ?_
  refine l_assign rfl rfl rfl ?_
  refine l_nil ?_
  refine e_then ?_
  refine c_keep [0] (.cons rfl .nil) ?_
  refine c_seq ?_
  refine c_seq ?_
  refine c_region ?_
  refine l_move rfl rfl rfl ?_
  refine v_leni rfl rfl Try.underlying66 rfl (by first | exact hv2 | exact hv | assumption) ?_
  refine l_eql rfl rfl rfl rfl ?_
  refine l_nil ?_
  refine e_then ?_
  refine c_keep [0, 7] (.cons rfl (.cons rfl .nil)) ?_
  first | refine c_cond rfl (fun hc0 => ?_) (fun hc0 => ?_) | refine c_condb rfl (fun hc0 => ?_) (fun hc0 => ?_)
  · skip
    have hz : Ma.tr l = [] := List.eq_nil_of_length_eq_zero (by omega)
    refine c_seq ?_
    refine c_region ?_
    refine l_assign rfl rfl rfl ?_
    refine l_nil ?_
    refine e_then ?_
    refine c_keep [2] (.cons rfl .nil) ?_
    refine c_ret ?_
    refine e_then_ret ?_
    refine e_done1 Try.results56 rfl ?_
    refine ⟨_, rfl, ?_⟩
    refine ⟨?_, rfl⟩
    rw [← htv, hz]
    rfl
  · skip
    have hp : 0 < (Ma.tr l).length := by omega
    have hbw := blen_words hU2 (Ma.tr_Tr l) hp
    rw [htv] at hbw
    refine c_skip ?_
    refine e_then ?_
    refine c_keep [0] (.cons rfl .nil) ?_
    refine c_seq ?_
    refine c_region ?_
    refine l_move rfl rfl rfl ?_
    refine v_leni rfl rfl Try.underlying66 rfl (by first | exact hv2 | exact hv | assumption) ?_
    refine l_sub rfl rfl rfl rfl (w_i64 (by omega)) ?_
    refine l_mul rfl rfl rfl rfl (w_i64 (by omega)) ?_
    refine l_move rfl rfl rfl ?_
    refine l_move rfl rfl rfl ?_
    refine v_leni rfl rfl Try.underlying66 rfl (by first | exact hv2 | exact hv | assumption) ?_
    refine l_sub rfl rfl rfl rfl (w_i64 (by omega)) ?_
    refine v_getr (j := (Ma.tr l).length - 1) rfl rfl rfl rfl Try.underlying66 tz22 Try.underlying22 rfl rfl (by first | exact hv2 | exact hv | assumption) (by assumption) rfl (by omega) (by first | omega | (simp; done) | (simp; omega)) (fun hb4_8 => ?_)
    have hy0 := Ma.blen_nonneg ((Ma.tr l).getD ((Ma.tr l).length - 1) 0)
    have hy1 : Ma.blen ((Ma.tr l).getD ((Ma.tr l).length - 1) 0) ≤ 64 := (Ma.blen_le_iff hb4_8.1 64).2 (Int.lt_of_le_of_lt hb4_8.2 (by decide))
    refine l_callp rfl rfl Try.func54 rfl rfl (.cons rfl .nil) (len64 _ hb4_8 _) ?_
    refine l_add rfl rfl rfl rfl (w_i64 (by omega)) ?_
    refine l_assign rfl rfl rfl ?_
    refine l_nil ?_
    refine e_then ?_
    refine c_keep [2] (.cons rfl .nil) ?_
    refine c_ret ?_
    refine e_done1 Try.results56 rfl ?_
    refine ⟨_, rfl, ?_⟩
    refine ⟨?_, rfl⟩
    rw [hbw]
theorem longN (A : Option Addr) (c : Nat) (l : List Int) (hU : U l) (hL : l.length ≤ 17592186044416) (w : World) (hv : IV w (.slice A (ints .u64 l).length c) (ints .u64 l)) :
    CallsV P 72 [.slice A (ints .u64 l).length c] w fun r w' => r = .bool (decide (8192 < Ma.blen (nv l))) ∧ w = w' := by
  refine enterW Try.func72 rfl Try.ntmps72 rfl ?_
  refine c_seq ?_
  refine c_region ?_
  refine l_assign rfl rfl rfl ?_
  refine l_nil ?_
  refine e_then ?_
  refine c_keep [0] (.cons rfl .nil) ?_
  refine c_seq ?_
  refine c_region ?_
  refine l_move rfl rfl rfl ?_
  refine l_callp rfl rfl Try.func56 rfl rfl (.cons rfl .nil) (lenN A c l hU hL w hv) ?_
  refine l_gtr rfl rfl rfl rfl ?_
  refine l_assign rfl rfl rfl ?_
  refine l_nil ?_
  refine e_then ?_
  refine c_keep [2] (.cons rfl .nil) ?_
  refine c_ret ?_
  refine e_done1 Try.results72 rfl ?_
  refine ⟨_, rfl, ?_⟩
  exact ⟨rfl, rfl⟩

/-- what 'told' tells of a row of words -/
def toldV (A : Option Addr) (l : List Int) : Value := if 8192 < Ma.blen (nv l) then .tuple #[.slice none 0 0, .int .i64 21] else .tuple #[.slice A (Ma.tr l).length (Ma.tr l).length, .int .i64 0]

theorem toldN (A : Option Addr) (c : Nat) (l : List Int) (hU : U l) (hL : l.length ≤ 17592186044416) (w : World) (hv : IV w (.slice A (ints .u64 l).length c) (ints .u64 l)) :
    CallsV P 77 [.slice A (ints .u64 l).length c] w fun r w' => r = toldV A l ∧ w = w' := by
  refine enterW Try.func77 rfl Try.ntmps77 rfl ?_
  refine c_seq ?_
  refine c_region ?_
  refine l_assign rfl rfl rfl ?_
  refine l_assign rfl rfl rfl ?_
  refine l_nil ?_
  refine e_then ?_
  refine c_keep [0] (.cons rfl .nil) ?_
  refine c_seq ?_
  refine c_seq ?_
  refine c_region ?_
  refine l_move rfl rfl rfl ?_
  refine l_callp rfl rfl Try.func72 rfl rfl (.cons rfl .nil) (longN A c l hU hL w hv) ?_
  refine l_nil ?_
  refine e_then ?_
  refine c_keep [0, 5] (.cons rfl (.cons rfl .nil)) ?_
  first | refine c_cond rfl (fun hc0 => ?_) (fun hc0 => ?_) | refine c_condb rfl (fun hc0 => ?_) (fun hc0 => ?_)
  · skip
    refine c_seq ?_
    refine c_region ?_
    refine l_assign rfl rfl rfl ?_
    refine l_assign rfl rfl rfl ?_
    refine l_nil ?_
    refine e_then ?_
    refine c_keep [2, 3] (.cons rfl (.cons rfl .nil)) ?_
    refine c_ret ?_
    refine e_then_ret ?_
    refine e_done2 Try.results77 rfl rfl ?_
    refine ⟨_, rfl, ?_⟩
    exact ⟨by unfold toldV; rw [if_pos hc0], rfl⟩
  · skip
    refine c_skip ?_
    refine e_then ?_
    refine c_keep [0] (.cons rfl .nil) ?_
    refine c_seq ?_
    refine c_region ?_
    refine l_move rfl rfl rfl ?_
    refine l_callp rfl rfl Try.func71 rfl rfl (.cons rfl .nil) (trim A c l hU hL w hv) ?_
    refine l_assign rfl rfl rfl ?_
    refine l_assign rfl rfl rfl ?_
    refine l_nil ?_
    refine e_then ?_
    refine c_keep [2, 3] (.cons rfl (.cons rfl .nil)) ?_
    refine c_ret ?_
    refine e_done2 Try.results77 rfl rfl ?_
    refine ⟨_, rfl, ?_⟩
    exact ⟨by unfold toldV; rw [if_neg hc0], rfl⟩
theorem atN (v : Value) (l : List Int) (hU : U l) (j : Nat) (w : World) (hv : IV w v (ints .u64 l)) :
    CallsV P 95 [v, .int .i64 (j : Int)] w fun r w' => r = .int .u64 (l.getD j 0) ∧ w = w' := by
  refine enterW Try.func95 rfl Try.ntmps95 rfl ?_
  refine c_seq ?_
  refine c_region ?_
  refine l_assign rfl rfl rfl ?_
  refine l_nil ?_
  refine e_then ?_
  refine c_keep [0, 1] (.cons rfl (.cons rfl .nil)) ?_
  refine c_seq ?_
  refine c_seq ?_
  refine c_region ?_
  refine l_move rfl rfl rfl ?_
  refine l_move rfl rfl rfl ?_
  refine v_leni rfl rfl Try.underlying66 rfl (by first | exact hv | assumption) ?_
  refine l_lss rfl rfl rfl rfl ?_
  refine l_nil ?_
  refine e_then ?_
  refine c_keep [0, 1, 8] (.cons rfl (.cons rfl (.cons rfl .nil))) ?_
  first | refine c_cond rfl (fun hc0 => ?_) (fun hc0 => ?_) | refine c_condb rfl (fun hc0 => ?_) (fun hc0 => ?_)
  · skip
    refine c_seq ?_
    refine c_region ?_
    refine l_move rfl rfl rfl ?_
    refine l_move rfl rfl rfl ?_
    refine v_getr rfl rfl rfl rfl Try.underlying66 tz22 Try.underlying22 rfl rfl (by first | exact hv | assumption) (by assumption) rfl rfl (by first | omega | (simp; done) | (simp; omega)) (fun hb2_2 => ?_)
    refine l_assign rfl rfl rfl ?_
    refine l_nil ?_
    refine e_then ?_
    refine c_keep [4] (.cons rfl .nil) ?_
    refine c_ret ?_
    refine e_then_ret ?_
    refine e_done1 Try.results95 rfl ?_
    refine ⟨_, rfl, ?_⟩
    exact ⟨rfl, rfl⟩
  · skip
    refine c_skip ?_
    refine e_then ?_
    refine c_keep [] .nil ?_
    refine c_seq ?_
    refine c_region ?_
    refine l_assign rfl rfl rfl ?_
    refine l_nil ?_
    refine e_then ?_
    refine c_ret ?_
    refine e_done1 Try.results95 rfl ?_
    refine ⟨_, rfl, ?_⟩
    exact ⟨by simp [List.getD, show l.length ≤ j by omega], rfl⟩

/-- what tells a number and an error -/
def NatR (w w' : World) (r : Value) (e n : Int) : Prop := ∃ v ls, r = .tuple #[v, .int .i64 e] ∧ Ma.Cn 18446744073709551616 ls n ∧ Grow w w' [As.ri 22 .u64 v ls]
def TellR (w w' : World) (r v : Value) (l : List Int) : Prop :=
  ∃ v' ls, r = .tuple #[v', .int .i64 (if 8192 < Ma.blen (nv l) then 21 else 0)] ∧ Ma.Cn 18446744073709551616 ls (if 8192 < Ma.blen (nv l) then 0 else nv l) ∧ Turn w w' (As.ri 22 .u64 v l) (As.ri 22 .u64 v' ls)


theorem told_turn {v : Value} {l : List Int} (hU : U l) (hL : l.length ≤ 17592186044416) {w : World} (hv : IV w v (ints .u64 l)) : CallsV P 77 [v] w fun r w' => TellR w w' r v l := by
  obtain ⟨A, c, rfl, hc, hs⟩ := hv
  refine (toldN A c l hU hL w ⟨A, c, rfl, hc, hs⟩).mono ?_
  rintro r _ ⟨rfl, rfl⟩
  unfold toldV
  by_cases h : 8192 < Ma.blen (nv l)
  · refine ⟨.slice none 0 0, [], ?_, ?_, ?_⟩
    · rw [if_pos h, if_pos h]
    · rw [if_pos h]; exact Ma.Cn.nil
    · intro w0 B M σ σ' u hw
      exact hw.as u (fun k hk => by simp [As.own, Value.ownBlock] at hk) (fun w _ => Own.nil w _ 1)
  · refine ⟨.slice A (Ma.tr l).length (Ma.tr l).length, Ma.tr l, ?_, ?_, ?_⟩
    · rw [if_neg h, if_neg h]
    · rw [if_neg h]; exact Ma.Cn.of_tr hU.dg rfl
    · intro w0 B M σ σ' u hw
      exact trim_st u hw


theorem Ma.Cn.u {l : List Int} {n : Int} (h : Ma.Cn 18446744073709551616 l n) : U l := U.of_dg h.dg

theorem cloneN (v : Value) (l : List Int) (hU : U l) (hL : l.length ≤ 17592186044416) (w : World) (hv : IV w v (ints .u64 l)) :
    CallsV P 69 [v] w fun r w' => ∃ v', r = v' ∧ Grow w w' [As.ri 22 .u64 v' (Ma.tr l)] := by
  refine enterW Try.func69 rfl Try.ntmps69 rfl ?_
  have hw0 := St.start w
  obtain ⟨A, c, rfl, hc, hs⟩ := hv
  have hv : IV w (.slice A (ints .u64 l).length c) (ints .u64 l) := ⟨A, c, rfl, hc, hs⟩
  have hv2 := trim_iv hv
  have hl2 : (Ma.tr l).length ≤ l.length := (Ma.tr_take l).2.1
  refine c_seq ?_
  refine c_region ?_
  refine l_assign rfl rfl rfl ?_
  refine l_nil ?_
  refine e_then ?_
  refine c_keep [0] (.cons rfl .nil) ?_
  refine c_seq ?_
  refine c_region ?_
  refine l_move rfl rfl rfl ?_
  refine l_callp rfl rfl Try.func71 rfl rfl (.cons rfl .nil) (trim A c l hU hL w (hw0.iarg hv)) ?_
  refine v_append_nil hw0 rfl rfl Try.underlying66 ti22 rfl rfl rfl (by first | exact hw0.iarg hv2 | assumption) (by first | exact ints_one _ _ | exact bys_one _ | simp [Value.oneCell']) (by first | (simp; done) | (simp; omega)) (by first | (simp; done) | (simp; omega)) (fun v1_2 w1 hw1 => ?_)
  try clear hw0
  refine l_assign rfl rfl rfl ?_
  refine l_nil ?_
  refine e_then ?_
  refine c_keep [2] (.cons rfl .nil) ?_
  refine c_ret ?_
  refine e_done1 Try.results69 rfl ?_
  refine ⟨_, rfl, ?_⟩
  exact ⟨_, rfl, hw1.grows⟩
theorem ofN (x : Int) (hx : 0 ≤ x ∧ x ≤ 18446744073709551615) (w : World) :
    CallsV P 53 [.int .u64 x] w fun r w' => ∃ v ls, r = v ∧ Ma.Cn 18446744073709551616 ls x ∧ Grow w w' [As.ri 22 .u64 v ls] := by
  refine enterW Try.func53 rfl Try.ntmps53 rfl ?_
  have hw0 := St.start w
  have hU1 : U [x] := fun y hy => by rw [List.mem_singleton.1 hy]; exact hx
  refine c_seq ?_
  refine c_region ?_
  refine l_assign rfl rfl rfl ?_
  refine l_nil ?_
  refine e_then ?_
  refine c_keep [0] (.cons rfl .nil) ?_
  refine c_seq ?_
  refine c_region ?_
  refine l_move rfl rfl rfl ?_
  refine v_lit hw0 rfl rfl Try.underlying66 ti22 rfl (.cons rfl (by first | rfl | assumption) .nil) rfl rfl rfl (fun b1_1 w1 hw1 => ?_)
  try clear hw0
  refine l_call rfl rfl Try.func69 rfl rfl (.cons rfl .nil) (cloneN _ [x] hU1 (by simp) w1 (hw1.ibl mem0)) ?_
  rintro _ w2 ⟨v', rfl, hG⟩
  have hw2 := hG _ _ _ _ hw1
  try clear hG hw1
  simp only [List.cons_append, List.nil_append] at hw2
  refine l_assign rfl rfl rfl ?_
  refine l_nil ?_
  refine e_then ?_
  refine c_keep [2] (.cons rfl .nil) ?_
  refine c_ret ?_
  refine e_done1 Try.results53 rfl ?_
  refine ⟨_, rfl, ?_⟩
  have hw3 := St.del (.tail .head) hw2
  try clear hw2
  exact ⟨_, _, rfl, Ma.Cn.of_tr hU1.dg (by simp [Ma.vb]), hw3.grows⟩
end Go.Proofs.Ytmcbdgpcbcldjaa.W
