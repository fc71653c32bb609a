/- the scanner as a function; walks of wakes, ScanReads -/
import Derived.Test.YtjkaahnadaapoaaSh
import Derived.Test.YtjkaahnadaapoaaLp
import Derived.Test.YtjkaahnadaapoaaVr
set_option linter.unusedVariables false
set_option linter.unusedSimpArgs false
set_option maxRecDepth 10000
namespace Go.Proofs.Ytjkaahnadaapoaa.W
open Go.Vc Go.RowKit

/-- the cut of a text, to be reckoned with -/
def cutF (t : L8) : Bool × Int × L8 × L8 × Int × Int × Bool :=
  if 0 < like (t.drop (sg t 0)) infw then (ngb t, 1, [], [], 0, (sg t 0 : Int) + (like (t.drop (sg t 0)) infw : Int), decide ((sg t 0 : Int) + (like (t.drop (sg t 0)) infw : Int) = (t.length : Int) ∧ ((like (t.drop (sg t 0)) infw : Int) = 3 ∨ (like (t.drop (sg t 0)) infw : Int) = 8)))
  else if 0 < like (t.drop (sg t 0)) nanw then (ngb t, 2, [], [], 0, (sg t 0 : Int) + (like (t.drop (sg t 0)) nanw : Int), decide ((sg t 0 : Int) + (like (t.drop (sg t 0)) nanw : Int) = (t.length : Int) ∧ (like (t.drop (sg t 0)) nanw : Int) = 3))
  else
    let a1 := sg t 0 + run (t.drop (sg t 0))
    let p := a1 < t.length ∧ ((t.getD a1 0).toNat : Int) = 46
    let F := if p then (t.take (a1 + 1 + run (t.drop (a1 + 1)))).drop (a1 + 1) else []
    let a := if p then a1 + 1 + run (t.drop (a1 + 1)) else a1
    let W := (t.take a1).drop (sg t 0)
    if W.length + F.length = 0 then (ngb t, 0, W, F, 0, (a : Int), false)
    else if a < t.length ∧ ((t.getD a 0 ||| 32).toNat : Int) = 101 then
      let a4 := sg t (a + 1)
      let j := run (t.drop a4)
      if j = 0 then (ngb t, 0, W, F, 0, (a4 : Int), false)
      else (ngb t, 0, W, F, (if ((t.getD (a + 1) 0).toNat : Int) = 45 then 0 - expo ((t.drop a4).take j) else expo ((t.drop a4).take j)), ((a4 + j : Nat) : Int), decide (((a4 + j : Nat) : Int) = (t.length : Int)))
    else (ngb t, 0, W, F, 0, (a : Int), decide ((a : Int) = (t.length : Int)))
theorem cutF_ok (t : L8) : CutR t (cutF t).1 (cutF t).2.1 (cutF t).2.2.1 (cutF t).2.2.2.1 (cutF t).2.2.2.2.1 (cutF t).2.2.2.2.2.1 (cutF t).2.2.2.2.2.2 := by
  unfold cutF
  by_cases h1 : 0 < like (t.drop (sg t 0)) infw
  · rw [if_pos h1]; exact .inf h1
  · rw [if_neg h1]
    by_cases h2 : 0 < like (t.drop (sg t 0)) nanw
    · rw [if_pos h2]; exact .nan (by omega) h2
    · rw [if_neg h2]
      simp only []
      have hfr : ∃ F a, Fr t (sg t 0 + run (t.drop (sg t 0))) F a ∧ F = (if sg t 0 + run (t.drop (sg t 0)) < t.length ∧ ((t.getD (sg t 0 + run (t.drop (sg t 0))) 0).toNat : Int) = 46 then (t.take (sg t 0 + run (t.drop (sg t 0)) + 1 + run (t.drop (sg t 0 + run (t.drop (sg t 0)) + 1)))).drop (sg t 0 + run (t.drop (sg t 0)) + 1) else []) ∧
          a = (if sg t 0 + run (t.drop (sg t 0)) < t.length ∧ ((t.getD (sg t 0 + run (t.drop (sg t 0))) 0).toNat : Int) = 46 then sg t 0 + run (t.drop (sg t 0)) + 1 + run (t.drop (sg t 0 + run (t.drop (sg t 0)) + 1)) else sg t 0 + run (t.drop (sg t 0))) := by
        by_cases h : sg t 0 + run (t.drop (sg t 0)) < t.length ∧ ((t.getD (sg t 0 + run (t.drop (sg t 0))) 0).toNat : Int) = 46
        · rw [if_pos h, if_pos h]; exact ⟨_, _, .yes h.1 h.2, rfl, rfl⟩
        · rw [if_neg h, if_neg h]; exact ⟨_, _, .no (fun h3 h4 => h ⟨h3, h4⟩), rfl, rfl⟩
      obtain ⟨F, a, hf, eF, ea⟩ := hfr
      rw [← eF, ← ea]
      by_cases h3 : ((t.take (sg t 0 + run (t.drop (sg t 0)))).drop (sg t 0)).length + F.length = 0
      · rw [if_pos h3]; exact .none (by omega) (by omega) rfl hf h3
      · rw [if_neg h3]
        have hz : 0 < ((t.take (sg t 0 + run (t.drop (sg t 0)))).drop (sg t 0)).length + F.length := by omega
        by_cases h4 : a < t.length ∧ ((t.getD a 0 ||| 32).toNat : Int) = 101
        · rw [if_pos h4]
          by_cases h5 : run (t.drop (sg t (a + 1))) = 0
          · rw [if_pos h5]; exact .bad (by omega) (by omega) rfl hf hz h4.1 h4.2 rfl h5
          · rw [if_neg h5]; exact .exp (by omega) (by omega) rfl hf hz h4.1 h4.2 rfl rfl (by omega) rfl
        · rw [if_neg h4]; exact .plain (by omega) (by omega) rfl hf hz (fun h6 h7 => h4 ⟨h6, h7⟩)
def readF (t : L8) : Bool × Int × L8 × L8 × Int × Int × Int :=
  if 1024 < t.length then (false, 0, [], [], 0, 0, 80)
  else if (cutF t).2.2.2.2.2.2 then ((cutF t).1, (cutF t).2.1, (cutF t).2.2.1, (cutF t).2.2.2.1, (cutF t).2.2.2.2.1, 0, 0)
  else (false, 0, [], [], 0, (cutF t).2.2.2.2.2.1, 81)
theorem readF_ok (t : L8) : ReadR t (readF t).1 (readF t).2.1 (readF t).2.2.1 (readF t).2.2.2.1 (readF t).2.2.2.2.1 (readF t).2.2.2.2.2.1 (readF t).2.2.2.2.2.2 := by
  unfold readF
  by_cases h : 1024 < t.length
  · rw [if_pos h]; exact .long h
  · rw [if_neg h]
    have hc := cutF_ok t
    cases e : (cutF t).2.2.2.2.2.2 with
    | true => rw [e] at hc; rw [if_pos rfl]; exact .ok (by omega) hc
    | false => rw [e] at hc; rw [if_neg (by decide)]; exact .form (by omega) hc
/-- the number of a text, to be reckoned with -/
def scanF (t : L8) : Bool × Int × Int × Int × Bool × Int × Int :=
  match readF t with
  | (ng, wd, W, F, x, p, e) =>
    if e = 0 then
      if wd = 0 ∧ ¬ skip0 (W ++ F) = [] then
        (ng, 0, pv ((skip0 (W ++ F)).take ((skip0 (W ++ F)).length - ((skip0 (W ++ F)).length - 19))), x - F.length + (((skip0 (W ++ F)).length - 19 : Nat) : Int), ((skip0 (W ++ F)).drop ((skip0 (W ++ F)).length - ((skip0 (W ++ F)).length - 19))).any (fun c => !decide (c = 48)), 0, 0)
      else (decide (ng = true ∧ ¬ wd = 2), wd, 0, 0, false, 0, 0)
    else (false, 0, 0, 0, false, p, e)
theorem scanF_ok {t : L8} {ng more : Bool} {wd man x p e : Int} (h : ScanR t ng wd man x more p e) : scanF t = (ng, wd, man, x, more, p, e) := by
  have hr := readF_ok t
  unfold scanF
  generalize readF t = z at hr
  obtain ⟨ng0, wd0, W0, F0, x0, p0, e0⟩ := z
  simp only at hr ⊢
  cases h with
  | err hr2 he =>
    obtain ⟨_, _, _, _, _, rfl, rfl⟩ := hr.unique hr2
    rw [if_neg he]
  | nil hr2 hn =>
    obtain ⟨rfl, rfl, rfl, rfl, rfl, rfl, rfl⟩ := hr.unique hr2
    rw [if_pos rfl, if_neg (fun h => hn.elim (fun h2 => h2 h.1) (fun h2 => h.2 h2))]
  | num hr2 hne hn =>
    obtain ⟨rfl, rfl, rfl, rfl, rfl, rfl, rfl⟩ := hr.unique hr2
    subst hn
    rw [if_pos rfl, if_pos ⟨rfl, hne⟩]
theorem scanF_eq {t : L8} {ng more ng' more' : Bool} {wd man x p e wd' man' x' p' e' : Int} (h : ScanR t ng wd man x more p e) (k : scanF t = (ng', wd', man', x', more', p', e')) : ng = ng' ∧ wd = wd' ∧ man = man' ∧ x = x' ∧ more = more' ∧ p = p' ∧ e = e' := by
  have := (scanF_ok h).symm.trans k
  simpa using this
theorem ScanR.ebd {t : L8} {ng more : Bool} {wd man x p e : Int} (h : ScanR t ng wd man x more p e) : -9223372036854775808 ≤ e ∧ e ≤ 9223372036854775807 := by
  cases h with
  | err hr _ => cases hr <;> omega
  | nil _ _ => omega
  | num _ _ _ => omega
theorem wake1 : scanF [45, 49, 46, 53, 48, 101, 51] = (true, 0, 150, 1, false, 0, 0) := by decide +kernel
theorem wake2 : scanF [49, 101, 43] = (false, 0, 0, 0, false, 3, 81) := by decide +kernel

theorem numL (x : Int) (hx : -9223372036854775808 ≤ x ∧ x ≤ 9223372036854775807) (w : World) :
    CallsV P 13 [.int .i64 x] w fun r w' => r = .int .i64 x ∧ w = w' := by
  refine enterW Try.func13 rfl Try.ntmps13 rfl ?_
  refine c_seq ?_
  refine c_region ?_
  refine l_assign rfl rfl rfl ?_
  refine l_nil ?_
  refine e_then ?_
  refine c_keep [0] (.cons rfl .nil) ?_
  refine c_seq ?_
  refine c_region ?_
  refine l_move rfl rfl rfl ?_
  refine l_assign rfl rfl rfl ?_
  refine l_nil ?_
  refine e_then ?_
  refine c_keep [2] (.cons rfl .nil) ?_
  refine c_ret ?_
  refine e_done1 Try.results13 rfl ?_
  refine ⟨_, rfl, ?_⟩
  exact ⟨rfl, rfl⟩
theorem wakesL  (w : World) :
    CallsV P 15 [] w fun r w' => r = .bool true ∧ Grow w w' [] := by
  refine enterW Try.func15 rfl Try.ntmps15 rfl ?_
  have hw0 := St.start w
  refine c_seq ?_
  refine c_region ?_
  refine l_assign rfl rfl rfl ?_
  refine l_nil ?_
  refine e_then ?_
  refine c_keep [] .nil ?_
  refine c_seq ?_
  refine c_region ?_
  refine v_lit hw0 rfl rfl Try.underlying22 ti5 rfl (.cons rfl (by first | rfl | assumption) (.cons rfl (by first | rfl | assumption) (.cons rfl (by first | rfl | assumption) (.cons rfl (by first | rfl | assumption) (.cons rfl (by first | rfl | assumption) (.cons rfl (by first | rfl | assumption) (.cons rfl (by first | rfl | assumption) .nil))))))) rfl rfl rfl (fun b1_0 w1 hw1 => ?_)
  try clear hw0
  refine l_mark hw1 rfl rfl Try.underlying22 Try.underlying5 rfl rfl (fun v1_1 w2 hw2 => ?_)
  try clear hw1
  refine l_call rfl rfl Try.func11 rfl rfl (.cons rfl .nil) (scanS _ [45, 49, 46, 53, 48, 101, 51] (by decide) w2 (hw2.ii mem0)) ?_
  rintro _ w3 ⟨ng1, wd1, man1, x1, more1, p1, e1, rfl, hSng1, hG⟩
  have hw3 := hG _ _ _ _ hw2
  try clear hG hw2
  simp only [List.cons_append, List.nil_append] at hw3
  obtain ⟨rfl, rfl, rfl, rfl, rfl, rfl, rfl⟩ := scanF_eq hSng1 wake1
  refine l_move rfl rfl rfl ?_
  refine l_extract rfl rfl rfl rfl ?_
  refine l_extract rfl rfl rfl rfl ?_
  refine l_extract rfl rfl rfl rfl ?_
  refine l_alloc hw3 ta27 rfl rfl (fun b1_7 w4 hw4 => ?_)
  try clear hw3
  refine l_store_blks hw4 .head (.zero (.zero (.zero (.zero (.zero .nil))))) rfl tz27 rfl rfl (by first | (simp [Value.oneCell']; done) | (intro u hu; simp only [List.mem_cons, List.not_mem_nil, or_false] at hu; rcases hu with rfl | rfl | rfl | rfl | rfl <;> first | rfl | assumption)) (fun w5 hw5 => ?_)
  try clear hw4
  refine l_assign rfl rfl rfl ?_
  refine l_assign rfl rfl rfl ?_
  refine l_nil ?_
  refine e_then ?_
  refine c_keep [1, 3] (.cons rfl (.cons rfl .nil)) ?_
  refine c_seq ?_
  refine c_region ?_
  refine v_lit hw5 rfl rfl Try.underlying22 ti5 rfl (.cons rfl (by first | rfl | assumption) (.cons rfl (by first | rfl | assumption) (.cons rfl (by first | rfl | assumption) .nil))) rfl rfl rfl (fun b2_0 w6 hw6 => ?_)
  try clear hw5
  refine l_mark hw6 rfl rfl Try.underlying22 Try.underlying5 rfl rfl (fun v2_1 w7 hw7 => ?_)
  try clear hw6
  refine l_call rfl rfl Try.func11 rfl rfl (.cons rfl .nil) (scanS _ [49, 101, 43] (by decide) w7 (hw7.ii mem0)) ?_
  rintro _ w8 ⟨ng2, wd2, man2, x2, more2, p2, e2, rfl, hSng2, hG⟩
  have hw8 := hG _ _ _ _ hw7
  try clear hG hw7
  simp only [List.cons_append, List.nil_append] at hw8
  obtain ⟨rfl, rfl, rfl, rfl, rfl, rfl, rfl⟩ := scanF_eq hSng2 wake2
  refine l_move rfl rfl rfl ?_
  refine l_extract rfl rfl rfl rfl ?_
  refine l_extract rfl rfl rfl rfl ?_
  refine l_extract rfl rfl rfl rfl ?_
  refine l_alloc hw8 ta27 rfl rfl (fun b2_7 w9 hw9 => ?_)
  try clear hw8
  refine l_store_blks hw9 .head (.zero (.zero (.zero (.zero (.zero .nil))))) rfl tz27 rfl rfl (by first | (simp [Value.oneCell']; done) | (intro u hu; simp only [List.mem_cons, List.not_mem_nil, or_false] at hu; rcases hu with rfl | rfl | rfl | rfl | rfl <;> first | rfl | assumption)) (fun w10 hw10 => ?_)
  try clear hw9
  refine l_assign rfl rfl rfl ?_
  refine l_assign rfl rfl rfl ?_
  refine l_nil ?_
  refine e_then ?_
  refine c_keep [1, 3, 5, 6] (.cons rfl (.cons rfl (.cons rfl (.cons rfl .nil)))) ?_
  refine c_seq ?_
  refine c_region ?_
  refine l_move rfl rfl rfl ?_
  refine l_callp rfl rfl Try.func13 rfl rfl (.cons rfl .nil) (numL _ (by omega) _) ?_
  refine l_eql rfl rfl rfl rfl ?_
  refine l_turn (s := 23) (v' := .bool true) rfl (by rfl) ?_
  refine l_move rfl rfl rfl ?_
  refine l_load_agg hw10 mem2 rfl rfl Try.underlying27 rfl tz27 rfl (.take (.take (.take (.take (.take .nil))))) ?_
  refine l_buildS rfl rfl pl27 ta27 (.one rfl rfl (by first | rfl | assumption) .zero (.one rfl rfl (by first | rfl | assumption) (.succ (.succ .zero)) (.one rfl rfl (by first | rfl | assumption) (.succ (.succ (.succ .zero))) .nil))) ?_
  refine l_eqlA rfl rfl fl27 rfl rfl (.bool rfl rfl (.int rfl rfl (.int rfl rfl (.int rfl rfl (.bool rfl rfl .nil))))) ?_
  refine l_turn (s := 27) (v' := .bool true) rfl (by simp) ?_
  refine l_pick_t rfl rfl rfl rfl ?_
  refine l_move rfl rfl rfl ?_
  refine l_move rfl rfl rfl ?_
  refine l_callp rfl rfl Try.func13 rfl rfl (.cons rfl .nil) (numL _ (by omega) _) ?_
  refine l_eql rfl rfl rfl rfl ?_
  refine l_turn (s := 32) (v' := .bool true) rfl (by rfl) ?_
  refine l_pick_t rfl rfl rfl rfl ?_
  refine l_move rfl rfl rfl ?_
  refine l_move rfl rfl rfl ?_
  refine l_eql rfl rfl rfl rfl ?_
  refine l_turn (s := 36) (v' := .bool true) rfl (by rfl) ?_
  refine l_pick_t rfl rfl rfl rfl ?_
  refine l_assign rfl rfl rfl ?_
  refine l_nil ?_
  refine e_then ?_
  refine c_keep [0] (.cons rfl .nil) ?_
  refine c_ret ?_
  refine e_done1 Try.results15 rfl ?_
  refine ⟨_, rfl, ?_⟩
  have hw11 := St.del (.tail (.tail (.tail .head))) hw10
  try clear hw10
  have hw12 := St.del (.tail (.tail .head)) hw11
  try clear hw11
  have hw13 := St.del (.tail .head) hw12
  try clear hw12
  have hw14 := St.del .head hw13
  try clear hw13
  exact ⟨rfl, hw14.grows⟩
theorem scanReadsL (v : Value) (l : L8) (w : World) (hv : IB w v l) :
    CallsV P 3 [v] w fun r w' => r = .bool true ∧ Grow w w' [] := by
  refine enterW Try.func3 rfl Try.ntmps3 rfl ?_
  have hw0 := St.start w
  refine c_seq ?_
  refine c_region ?_
  refine l_assign rfl rfl rfl ?_
  refine l_nil ?_
  refine e_then ?_
  refine c_keep [0] (.cons rfl .nil) ?_
  refine c_seq ?_
  refine c_region ?_
  refine l_move rfl rfl rfl ?_
  refine l_call rfl rfl Try.func9 rfl rfl (.cons rfl (.cons rfl .nil)) (cutK v l 1100 w hv) ?_
  rintro va _ ⟨hv1, rfl⟩
  have lt1 : (l.take 1100).length ≤ 1100 := by rw [List.length_take]; omega
  generalize l.take 1100 = t at hv1 lt1
  refine l_assign rfl rfl rfl ?_
  refine l_nil ?_
  refine e_then ?_
  refine c_keep [0] (.cons rfl .nil) ?_
  refine c_seq ?_
  refine c_region ?_
  refine l_move rfl rfl rfl ?_
  refine l_call rfl rfl Try.func10 rfl rfl (.cons rfl .nil) (lendB _ t (by omega) w (hw0.iarg hv1)) ?_
  rintro _ w1 ⟨A, c, rfl, hG⟩
  have hw1 := hG _ _ _ _ hw0
  try clear hG hw0
  simp only [List.cons_append, List.nil_append] at hw1
  obtain ⟨ad, rfl⟩ := someB_ok (hw1.ok mem0)
  refine l_assign rfl rfl rfl ?_
  refine l_nil ?_
  refine e_then ?_
  refine c_keep [0, 3] (.cons rfl (.cons rfl .nil)) ?_
  refine c_seq ?_
  refine c_region ?_
  refine l_move rfl rfl rfl ?_
  refine l_call rfl rfl Try.func11 rfl rfl (.cons rfl .nil) (scanS _ t (by omega) w1 (headB_ok (hw1.ok mem0))) ?_
  rintro _ w2 ⟨ng1, wd1, man1, x1, more1, p1, e1, rfl, hSng1, hG⟩
  have hw2 := hG _ _ _ _ hw1
  try clear hG hw1
  simp only [List.cons_append, List.nil_append] at hw2
  refine l_move rfl rfl rfl ?_
  refine l_extract rfl rfl rfl rfl ?_
  refine l_extract rfl rfl rfl rfl ?_
  refine l_extract rfl rfl rfl rfl ?_
  refine l_alloc hw2 ta27 rfl rfl (fun b3_6 w3 hw3 => ?_)
  try clear hw2
  refine l_store_blks hw3 .head (.zero (.zero (.zero (.zero (.zero .nil))))) rfl tz27 rfl rfl (by first | (simp [Value.oneCell']; done) | (intro u hu; simp only [List.mem_cons, List.not_mem_nil, or_false] at hu; rcases hu with rfl | rfl | rfl | rfl | rfl <;> first | rfl | assumption)) (fun w4 hw4 => ?_)
  try clear hw3
  refine l_assign rfl rfl rfl ?_
  refine l_assign rfl rfl rfl ?_
  refine l_nil ?_
  refine e_then ?_
  refine c_keep [0, 3, 4, 5, 6] (.cons rfl (.cons rfl (.cons rfl (.cons rfl (.cons rfl .nil))))) ?_
  refine c_seq ?_
  refine c_region ?_
  refine l_move rfl rfl rfl ?_
  refine l_call rfl rfl Try.func12 rfl rfl (.cons rfl .nil) (scan8 _ t (by omega) w4 (hw4.iarg hv1)) ?_
  rintro _ w5 ⟨ng2, wd2, man2, x2, more2, p2, e2, rfl, hSng2, hG⟩
  have hw5 := hG _ _ _ _ hw4
  try clear hG hw4
  simp only [List.cons_append, List.nil_append] at hw5
  obtain ⟨rfl, rfl, rfl, rfl, rfl, rfl, rfl⟩ := hSng1.unique hSng2
  have he1 := hSng1.ebd
  refine l_move rfl rfl rfl ?_
  refine l_extract rfl rfl rfl rfl ?_
  refine l_extract rfl rfl rfl rfl ?_
  refine l_extract rfl rfl rfl rfl ?_
  refine l_alloc hw5 ta27 rfl rfl (fun b4_6 w6 hw6 => ?_)
  try clear hw5
  refine l_store_blks hw6 .head (.zero (.zero (.zero (.zero (.zero .nil))))) rfl tz27 rfl rfl (by first | (simp [Value.oneCell']; done) | (intro u hu; simp only [List.mem_cons, List.not_mem_nil, or_false] at hu; rcases hu with rfl | rfl | rfl | rfl | rfl <;> first | rfl | assumption)) (fun w7 hw7 => ?_)
  try clear hw6
  refine l_assign rfl rfl rfl ?_
  refine l_assign rfl rfl rfl ?_
  refine l_nil ?_
  refine e_then ?_
  refine c_keep [0, 3, 4, 5, 6, 7, 8, 9] (.cons rfl (.cons rfl (.cons rfl (.cons rfl (.cons rfl (.cons rfl (.cons rfl (.cons rfl .nil)))))))) ?_
  refine c_seq ?_
  refine c_region ?_
  refine l_load_agg hw7 mem1 rfl rfl Try.underlying27 rfl tz27 rfl (.take (.take (.take (.take (.take .nil))))) ?_
  refine l_load_agg hw7 mem0 rfl rfl Try.underlying27 rfl tz27 rfl (.take (.take (.take (.take (.take .nil))))) ?_
  refine l_eqlA rfl rfl fl27 rfl rfl (.bool rfl rfl (.int rfl rfl (.int rfl rfl (.int rfl rfl (.bool rfl rfl .nil))))) ?_
  refine l_turn (s := 28) (v' := .bool true) rfl (by simp) ?_
  refine l_move rfl rfl rfl ?_
  refine l_move rfl rfl rfl ?_
  refine l_move rfl rfl rfl ?_
  refine l_eql rfl rfl rfl rfl ?_
  refine l_turn (s := 32) (v' := .bool true) rfl (by simp) ?_
  refine l_pick_t rfl rfl rfl rfl ?_
  refine l_move rfl rfl rfl ?_
  refine l_move rfl rfl rfl ?_
  refine l_callp rfl rfl Try.func13 rfl rfl (.cons rfl .nil) (numL _ he1 _) ?_
  refine l_move rfl rfl rfl ?_
  refine l_eql rfl rfl rfl rfl ?_
  refine l_turn (s := 38) (v' := .bool true) rfl (by simp) ?_
  refine l_pick_t rfl rfl rfl rfl ?_
  refine l_move rfl rfl rfl ?_
  refine l_move rfl rfl rfl ?_
  refine l_move rfl rfl rfl ?_
  refine l_call rfl rfl Try.func14 rfl rfl (.cons rfl (.cons rfl .nil)) (backB ad c va t (by omega) w7 (hw7.ok mem2) (hw7.rowlt mem2) (hw7.keepsArg mem2 hv1)) ?_
  rintro _ w8 ⟨rfl, lo, hT⟩
  have hw8 := hT _ _ _ _ _ (.tail (.tail .head)) hw7
  try clear hT hw7
  refine l_turn (s := 43) (v' := .bool true) rfl (by rfl) ?_
  refine l_pick_t rfl rfl rfl rfl ?_
  refine l_move rfl rfl rfl ?_
  refine l_call rfl rfl Try.func15 rfl rfl .nil (wakesL w8) ?_
  rintro _ w9 ⟨rfl, hG⟩
  have hw9 := hG _ _ _ _ hw8
  try clear hG hw8
  simp only [List.cons_append, List.nil_append] at hw9
  refine l_turn (s := 46) (v' := .bool true) rfl (by rfl) ?_
  refine l_pick_t rfl rfl rfl rfl ?_
  refine l_assign rfl rfl rfl ?_
  refine l_nil ?_
  refine e_then ?_
  refine c_keep [2] (.cons rfl .nil) ?_
  refine c_ret ?_
  refine e_done1 Try.results3 rfl ?_
  refine ⟨_, rfl, ?_⟩
  have hw10 := St.del (.tail (.tail .head)) hw9
  try clear hw9
  have hw11 := St.del (.tail .head) hw10
  try clear hw10
  have hw12 := St.del .head hw11
  try clear hw11
  exact ⟨rfl, hw12.grows⟩
end Go.Proofs.Ytjkaahnadaapoaa.W
