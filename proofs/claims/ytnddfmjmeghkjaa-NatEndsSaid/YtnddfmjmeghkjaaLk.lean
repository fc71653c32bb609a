/- walks of mintagekeep.LendWords, BackWords -/
import Derived.Test.YtnddfmjmeghkjaaLa
import Derived.Test.YtnddfmjmeghkjaaVb
set_option linter.unusedVariables false
set_option linter.unusedSimpArgs false
set_option maxRecDepth 10000
namespace Go.Proofs.Ytnddfmjmeghkjaa.W
open Go.Vc Go.RowKit
theorem lendW (v : Value) (l : List Int) (hU : U l) (hL : l.length ≤ 1099511627776) (w : World) (hv : IV w v (ints .u64 l)) :
    CallsV P 25 [v] w fun r w' => ∃ A c, r = .slice A l.length c ∧ Grow w w' [As.ri 22 .u64 (.slice A (l.length + 1) c) (l ++ [42330])] := by
  refine enterW Try.func25 rfl Try.ntmps25 rfl ?_
  have hw0 := St.start w
  refine c_seq ?_
  refine c_region ?_
  refine l_assign rfl rfl rfl ?_
  refine l_nil ?_
  refine e_then ?_
  refine c_keep [0] (.cons rfl .nil) ?_
  refine c_seq ?_
  refine c_region ?_
  refine l_move rfl rfl rfl ?_
  refine v_leni rfl rfl Try.underlying25 rfl (by first | exact hw0.iarg hv | assumption) ?_
  refine l_add rfl rfl rfl rfl (w_i64 (by omega)) ?_
  refine v_make (m := 0) (c := l.length + 1) hw0 rfl rfl Try.underlying25 ti22 rfl rfl rfl (by omega) (by omega) (by omega) (by omega) (by omega) (fun v1_3 w1 hw1 => ?_)
  try clear hw0
  refine l_assign rfl rfl rfl ?_
  refine l_nil ?_
  refine e_then ?_
  refine c_keep [0, 3] (.cons rfl (.cons rfl .nil)) ?_
  refine c_seq ?_
  refine c_region ?_
  refine l_move rfl rfl rfl ?_
  refine l_move rfl rfl rfl ?_
  refine v_append0 hw1 rfl rfl Try.underlying25 ti22 rfl rfl rfl (by first | exact hw1.io mem0 | exact hw1.iarg hv | assumption) (by first | exact ints_one _ _ | exact bys_one _ | simp [Value.oneCell']) (by first | (simp; done) | (simp; omega)) (by first | (simp; done) | (simp; omega)) (fun v2_2 w2 hw2 => ?_)
  try clear hw1
  refine l_assign rfl rfl rfl ?_
  refine l_nil ?_
  refine e_then ?_
  refine c_keep [0, 3] (.cons rfl (.cons rfl .nil)) ?_
  refine c_seq ?_
  refine c_region ?_
  refine l_move rfl rfl rfl ?_
  refine v_lit hw2 rfl rfl Try.underlying25 ti22 rfl (.cons rfl (by first | rfl | assumption) .nil) rfl rfl rfl (fun b3_1 w3 hw3 => ?_)
  try clear hw2
  refine v_push hw3 rfl rfl Try.underlying25 ti22 rfl rfl rfl rfl (by first | (simp [Value.oneCell']; done) | (intro u hu; rw [List.mem_singleton.1 hu]; assumption)) (by first | (simp; done) | (simp; omega)) (by first | (simp; done) | (simp; omega)) (fun v3_2 w4 hw4 => ?_)
  try clear hw3
  refine l_assign rfl rfl rfl ?_
  refine l_nil ?_
  refine e_then ?_
  refine c_keep [0, 3] (.cons rfl (.cons rfl .nil)) ?_
  refine c_seq ?_
  refine c_region ?_
  refine l_move rfl rfl rfl ?_
  refine l_move rfl rfl rfl ?_
  refine v_leni rfl rfl Try.underlying25 rfl (by first | exact hw4.io mem0 | exact hw4.iarg hv | assumption) ?_
  refine v_head (h := _) rfl rfl Try.underlying25 tz22 rfl rfl (by first | exact hw4.io mem0 | exact hw4.iarg hv | assumption) (by first | rfl | omega) (by first | omega | (simp; done) | (simp; omega)) (fun A4_3 c4_3 h4_3 => ?_)
  subst h4_3
  refine l_assign rfl rfl rfl ?_
  refine l_nil ?_
  refine e_then ?_
  refine c_keep [2] (.cons rfl .nil) ?_
  refine c_ret ?_
  refine e_done1 Try.results25 rfl ?_
  refine ⟨_, rfl, ?_⟩
  have hcs : List.replicate 0 (Value.int IntKind.u64 0) ++ ints .u64 l ++ [Value.int IntKind.u64 42330] = ints .u64 (l ++ [42330]) := by simp [ints]
  have hln : (ints .u64 (l ++ [42330])).length = l.length + 1 := by simp
  have h9 := hw4
  rw [hcs, hln] at h9
  exact ⟨_, _, rfl, h9.grows⟩
theorem backW (ad : Addr) (c : Nat) (b : Value) (l : List Int) (hU : U l) (hL : l.length ≤ 1099511627776) (w : World) (hok : (As.ri 22 .u64 (.slice (some ad) (l.length + 1) c) (l ++ [42330])).ok w) (hlt : ∀ k, (As.ri 22 .u64 (.slice (some ad) (l.length + 1) c) (l ++ [42330])).fp k → k < w.heap.size) (hb : ∀ w1 : World, (∀ k, k < w.heap.size → ¬ (As.ri 22 .u64 (.slice (some ad) (l.length + 1) c) (l ++ [42330])).fp k → w1.heap[k]? = w.heap[k]?) → IV w1 b (ints .u64 l)) :
    CallsV P 27 [.slice (some ad) l.length c, b] w fun r w' => r = .bool true ∧ ∃ lo, Turn w w' (As.ri 22 .u64 (.slice (some ad) (l.length + 1) c) (l ++ [42330])) (As.ri 22 .u64 (.slice (some ad) (l.length + 1) c) lo) := by
  refine enterW Try.func27 rfl Try.ntmps27 rfl ?_
  have hw0 := St.startM w hok hlt
  have hUm : U (l ++ [42330]) := fun x hx => (List.mem_append.1 hx).elim (hU x) (fun h => by rw [List.mem_singleton.1 h]; omega)
  have hlx : (l ++ [42330]).length = l.length + 1 := by simp
  have hiv := hw0.io mem0
  have hcap : l.length + 1 ≤ c := by
    obtain ⟨A', c', e, hc, _⟩ := hiv
    injection e with e1 e2 e3
    subst e3
    simpa using hc
  have hhd : IV w (.slice (some ad) l.length c) (ints .u64 l) := by
    obtain ⟨A', c', e, hc, hs⟩ := hiv
    injection e with e1 e2 e3
    subst e1 e3
    refine ⟨some ad, c, by simp, by simp; omega, fun j v hj => hs j v ?_⟩
    have hj' : j < l.length := by simpa using (List.getElem?_eq_some_iff.1 hj).1
    rw [ints, List.map_append, List.getElem?_append_left (by simpa using hj')]
    exact hj
  clear hiv
  refine c_seq ?_
  refine c_region ?_
  refine l_assign rfl rfl rfl ?_
  refine l_nil ?_
  refine e_then ?_
  refine c_keep [0, 1] (.cons rfl (.cons rfl .nil)) ?_
  refine c_seq ?_
  refine c_seq ?_
  refine c_region ?_
  refine l_move rfl rfl rfl ?_
  refine l_move rfl rfl rfl ?_
  refine l_call rfl rfl Try.func13 rfl rfl (.cons rfl (.cons rfl .nil)) (wordsK _ _ l l hU hU hL hL w hhd (hw0.ikM hb)) ?_
  rintro _ w1 ⟨rfl, hG⟩
  have hw1 := hG _ _ _ _ hw0
  try clear hG hw0
  simp only [List.cons_append, List.nil_append] at hw1
  refine l_turn (s := 8) (v' := .bool true) rfl (by rw [decide_eq_true rfl]) ?_
  first | refine l_notd rfl rfl rfl ?_ | refine l_not rfl rfl rfl ?_
  refine l_turn (s := 9) (v' := .bool false) rfl (by rfl) ?_
  refine l_move rfl rfl rfl ?_
  refine l_move rfl rfl rfl ?_
  refine l_move rfl rfl rfl ?_
  refine v_leni rfl rfl Try.underlying25 rfl (by first | exact hw1.io mem0 | exact hw1.ikM hb | assumption) ?_
  refine l_add rfl rfl rfl rfl (w_i64 (by omega)) ?_
  refine l_slice (size := 1) (l := 0) (h := l.length + 1) (mm := c) rfl rfl Try.underlying25 tz22 rfl rfl rfl rfl rfl rfl rfl (by simp) (by omega) hcap (Nat.le_refl _) ?_
  refine l_turn (s := 15) (v' := .slice (some ad) (l.length + 1) c) rfl (by simp [cutA0]) ?_
  refine l_move rfl rfl rfl ?_
  refine v_leni rfl rfl Try.underlying25 rfl (by first | exact hw1.io mem0 | exact hw1.ikM hb | assumption) ?_
  refine v_getr (j := l.length) rfl rfl rfl rfl Try.underlying25 tz22 Try.underlying22 rfl rfl (by first | exact hw1.io mem0 | exact hw1.ikM hb | assumption) (by assumption) rfl (by omega) (by first | omega | (simp; omega)) (fun hb1_12 => ?_)
  refine l_neq rfl rfl rfl rfl ?_
  refine l_turn (s := 20) (v' := .bool false) rfl (by simp [List.getD]) ?_
  refine l_pick_f rfl rfl rfl rfl ?_
  refine l_nil ?_
  refine e_then ?_
  refine c_keep [0, 21] (.cons rfl (.cons rfl .nil)) ?_
  refine c_cond_f rfl rfl ?_
  refine c_skip ?_
  refine e_then ?_
  refine c_keep [0] (.cons rfl .nil) ?_
  refine c_seq ?_
  refine c_seq ?_
  refine c_region ?_
  refine l_assign rfl rfl rfl ?_
  refine l_nil ?_
  refine e_then ?_
  refine c_block ?_
  refine c_loopk (ι := Nat × List Int) (fun (z0 : Nat × List Int) => match z0 with | ⟨i, o⟩ => l.length - i) (fun (z0 : Nat × List Int) (w' : World) => match z0 with | ⟨i, o⟩ => St w w.heap.size (As.ri 22 .u64 (.slice (some ad) (l.length + 1) c) (l ++ [42330])).fp ([As.ri 22 .u64 (.slice (some ad) (l.length + 1) c) o]) w' ∧ i ≤ l.length ∧ o.length = l.length + 1 ∧ U o) (fun (z0 : Nat × List Int) => match z0 with | ⟨i, o⟩ => [(5, .int .i64 (i : Int))]) [0] (0, l ++ [42330]) ?_ (.cons rfl .nil) ?_ ?_
  · exact ⟨hw1, by omega, hlx, hUm⟩
  · exact (.cons rfl (by first | rfl | (refine congrArg (Value.int _) ?_; omega)) .nil)
  rintro ⟨i, o⟩ w2 ⟨hw2, hi, hol, hUo⟩
  show RunC P _ _ _ (_ :: _) _
  refine c_seq ?_
  refine c_seq ?_
  refine c_region ?_
  refine l_move rfl rfl rfl ?_
  refine l_move rfl rfl rfl ?_
  refine v_leni rfl rfl Try.underlying25 rfl (by first | exact hw2.io mem0 | exact hw2.ikM hb | assumption) ?_
  refine l_lss rfl rfl rfl rfl ?_
  refine l_nil ?_
  refine e_then ?_
  refine c_keep [0, 5, 25] (.cons rfl (.cons rfl (.cons rfl .nil))) ?_
  first | refine c_cond rfl (fun hc1 => ?_) (fun hc1 => ?_) | refine c_condb rfl (fun hc1 => ?_) (fun hc1 => ?_)
  · skip
    refine c_skip ?_
    refine e_then ?_
    refine c_keep [0, 5] (.cons rfl (.cons rfl .nil)) ?_
    refine c_seq ?_
    refine c_block ?_
    refine c_region ?_
    refine l_move rfl rfl rfl ?_
    refine l_move rfl rfl rfl ?_
    refine l_move rfl rfl rfl ?_
    refine l_move rfl rfl rfl ?_
    refine v_addrx (j := i) rfl rfl Try.underlying25 tz22 rfl rfl rfl (by first | rfl | omega) (by first | omega | (simp; done) | (simp; omega)) ?_
    refine v_loadi rfl rfl Try.underlying22 rfl rfl (by first | exact hw2.io mem0 | exact hw2.ikM hb | assumption) (by assumption) (by first | omega | (simp; done) | (simp; omega)) (fun hb6_5 => ?_)
    refine l_add rfl rfl rfl rfl (w_u64m _) ?_
    refine v_addrx (j := i) rfl rfl Try.underlying25 tz22 rfl rfl rfl (by first | rfl | omega) (by first | omega | (simp; done) | (simp; omega)) ?_
    refine v_storeiw hw2 .head rfl (by first | rfl | omega | (simp; done) | (simp; omega)) rfl tz22 rfl rfl (by first | omega | (simp; done) | (simp; omega)) (fun w3 hw3 => ?_)
    try clear hw2
    refine l_nil ?_
    refine e_blk ?_
    refine e_then ?_
    refine c_keep [0, 5] (.cons rfl (.cons rfl .nil)) ?_
    refine c_region ?_
    refine l_move rfl rfl rfl ?_
    refine l_add rfl rfl rfl rfl (w_i64 (by omega)) ?_
    refine l_assign rfl rfl rfl ?_
    refine l_nil ?_
    refine e_againk (i := (i, o)) (i + 1, o.set i ((o.getD i 0 + 77) % 18446744073709551616)) ?_ ?_ (.cons rfl .nil) ?_
    · first | omega | (simp; omega)
    · exact ⟨hw3, by omega, by simpa using hol, hUo.set (by omega) _⟩
    · exact (.cons rfl (by first | rfl | (refine congrArg (Value.int _) ?_; omega)) .nil)
  · skip
    refine c_exit ?_
    refine e_then_exit ?_
    refine e_then_exit ?_
    refine e_blk_exit ?_
    refine e_then ?_
    refine c_keep [] .nil ?_
    refine c_seq ?_
    refine c_region ?_
    refine l_assign rfl rfl rfl ?_
    refine l_nil ?_
    refine e_then ?_
    refine c_ret ?_
    refine e_done1 Try.results27 rfl ?_
    refine ⟨_, rfl, ?_⟩
    exact ⟨rfl, _, hw2.turns (fun k hk => .inl hk)⟩
end Go.Proofs.Ytnddfmjmeghkjaa.W
