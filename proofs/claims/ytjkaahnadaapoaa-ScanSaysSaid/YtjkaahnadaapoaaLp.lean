/- walks of mintagekeep.Cut, Same, Lend, Back -/
import Derived.Test.YtjkaahnadaapoaaFa
import Derived.Test.YtjkaahnadaapoaaVg
set_option linter.unusedVariables false
set_option linter.unusedSimpArgs false
set_option maxRecDepth 10000
namespace Go.Proofs.Ytjkaahnadaapoaa.W
open Go.Vc Go.RowKit
theorem cutK (v : Value) (l : List UInt8) (n : Nat) (w : World) (hv : IB w v l) :
    CallsV P 9 [v, .int .i64 (n : Int)] w fun r w' => IV w r (bys (l.take n)) ∧ w = w' := by
  refine enterW Try.func9 rfl Try.ntmps9 rfl ?_
  refine c_seq ?_
  refine c_region ?_
  refine l_assign rfl rfl rfl ?_
  refine l_nil ?_
  refine e_then ?_
  refine c_keep [0, 1] (.cons rfl (.cons rfl .nil)) ?_
  refine c_seq ?_
  refine c_seq ?_
  refine c_region ?_
  refine l_move rfl rfl rfl ?_
  refine v_lenb rfl rfl Try.underlying22 rfl (by first | exact hv | assumption) ?_
  refine l_move rfl rfl rfl ?_
  refine l_gtr rfl rfl rfl rfl ?_
  refine l_nil ?_
  refine e_then ?_
  refine c_keep [0, 1, 8] (.cons rfl (.cons rfl (.cons rfl .nil))) ?_
  first | refine c_cond rfl (fun hc0 => ?_) (fun hc0 => ?_) | refine c_condb rfl (fun hc0 => ?_) (fun hc0 => ?_)
  · skip
    refine c_seq ?_
    refine c_region ?_
    refine l_move rfl rfl rfl ?_
    refine l_move rfl rfl rfl ?_
    refine v_cut (l := 0) (h := n) rfl rfl Try.underlying22 tz5 rfl rfl rfl rfl hv (by first | rfl | (simp; done) | (simp; omega)) (by first | rfl | (simp; done) | (simp; omega)) (.inl rfl) (by simp) (by omega) (by first | omega | (simp; omega) | (simp; done)) (fun v2_2 h2_2 ho2_2 => ?_)
    have e2 : ((bys l).take n).drop 0 = bys (l.take n) := by simp [bys, List.map_take]
    rw [e2] at h2_2
    refine l_assign rfl rfl rfl ?_
    refine l_nil ?_
    refine e_then ?_
    refine c_keep [4] (.cons rfl .nil) ?_
    refine c_ret ?_
    refine e_then_ret ?_
    refine e_done1 Try.results9 rfl ?_
    refine ⟨_, rfl, ?_⟩
    exact ⟨h2_2, rfl⟩
  · skip
    refine c_skip ?_
    refine e_then ?_
    refine c_keep [0] (.cons rfl .nil) ?_
    refine c_seq ?_
    refine c_region ?_
    refine l_move rfl rfl rfl ?_
    refine l_assign rfl rfl rfl ?_
    refine l_nil ?_
    refine e_then ?_
    refine c_keep [4] (.cons rfl .nil) ?_
    refine c_ret ?_
    refine e_done1 Try.results9 rfl ?_
    refine ⟨_, rfl, ?_⟩
    exact ⟨by rw [List.take_of_length_le (by omega)]; exact hv, rfl⟩
theorem sameK (a b : Value) (la lb : List UInt8) (w : World) (ha : IB w a la) (hb : IB w b lb) :
    CallsV P 33 [a, b] w fun r w' => r = .bool (decide (la = lb)) ∧ w = w' := by
  refine enterW Try.func33 rfl Try.ntmps33 rfl ?_
  refine c_seq ?_
  refine c_region ?_
  refine l_assign rfl rfl rfl ?_
  refine l_nil ?_
  refine e_then ?_
  refine c_keep [0, 1] (.cons rfl (.cons rfl .nil)) ?_
  refine c_seq ?_
  refine c_region ?_
  refine l_move rfl rfl rfl ?_
  refine v_tostr (l := la) rfl rfl Try.underlying22 Try.underlying5 Try.underlying9 rfl (by first | exact ha | exact hb | assumption) ?_
  refine l_move rfl rfl rfl ?_
  refine v_tostr (l := lb) rfl rfl Try.underlying22 Try.underlying5 Try.underlying9 rfl (by first | exact ha | exact hb | assumption) ?_
  refine l_eqls rfl rfl rfl rfl ?_
  refine l_assign rfl rfl rfl ?_
  refine l_nil ?_
  refine e_then ?_
  refine c_keep [4] (.cons rfl .nil) ?_
  refine c_ret ?_
  refine e_done1 Try.results33 rfl ?_
  refine ⟨_, rfl, ?_⟩
  exact ⟨rfl, rfl⟩
theorem lendB (v : Value) (l : List UInt8) (hL : l.length ≤ 1099511627776) (w : World) (hv : IB w v l) :
    CallsV P 10 [v] w fun r w' => ∃ A c, r = .slice A l.length c ∧ Grow w w' [As.rb 5 (.slice A (l.length + 2) c) (l ++ [165, 90])] := by
  refine enterW Try.func10 rfl Try.ntmps10 rfl ?_
  have hw0 := St.start w
  refine c_seq ?_
  refine c_region ?_
  refine l_assign rfl rfl rfl ?_
  refine l_nil ?_
  refine e_then ?_
  refine c_keep [0] (.cons rfl .nil) ?_
  refine c_seq ?_
  refine c_region ?_
  refine l_move rfl rfl rfl ?_
  refine v_lenb rfl rfl Try.underlying22 rfl (by first | exact hw0.iarg hv | assumption) ?_
  refine l_add rfl rfl rfl rfl (w_i64 (by omega)) ?_
  refine v_make (m := 0) (c := l.length + 2) hw0 rfl rfl Try.underlying22 ti5 rfl rfl rfl (by omega) (by omega) (by omega) (by omega) (by omega) (fun v1_3 w1 hw1 => ?_)
  try clear hw0
  refine l_assign rfl rfl rfl ?_
  refine l_nil ?_
  refine e_then ?_
  refine c_keep [0, 3] (.cons rfl (.cons rfl .nil)) ?_
  refine c_seq ?_
  refine c_region ?_
  refine l_move rfl rfl rfl ?_
  refine l_move rfl rfl rfl ?_
  refine v_append0 hw1 rfl rfl Try.underlying22 ti5 rfl rfl rfl (by first | exact hw1.io mem0 | exact hw1.iarg hv | assumption) (by first | exact ints_one _ _ | exact bys_one _ | simp [Value.oneCell']) (by first | (simp; done) | (simp; omega)) (by first | (simp; done) | (simp; omega)) (fun v2_2 w2 hw2 => ?_)
  try clear hw1
  refine l_assign rfl rfl rfl ?_
  refine l_nil ?_
  refine e_then ?_
  refine c_keep [0, 3] (.cons rfl (.cons rfl .nil)) ?_
  refine c_seq ?_
  refine c_region ?_
  refine l_move rfl rfl rfl ?_
  refine v_lit hw2 rfl rfl Try.underlying22 ti5 rfl (.cons rfl (by first | rfl | assumption) (.cons rfl (by first | rfl | assumption) .nil)) rfl rfl rfl (fun b3_1 w3 hw3 => ?_)
  try clear hw2
  refine v_push hw3 rfl rfl Try.underlying22 ti5 rfl rfl rfl rfl (by first | (simp [Value.oneCell']; done) | (intro u hu; rw [List.mem_singleton.1 hu]; assumption)) (by first | (simp; done) | (simp; omega)) (by first | (simp; done) | (simp; omega)) (fun v3_2 w4 hw4 => ?_)
  try clear hw3
  refine l_assign rfl rfl rfl ?_
  refine l_nil ?_
  refine e_then ?_
  refine c_keep [0, 3] (.cons rfl (.cons rfl .nil)) ?_
  refine c_seq ?_
  refine c_region ?_
  refine l_move rfl rfl rfl ?_
  refine l_move rfl rfl rfl ?_
  refine v_lenb rfl rfl Try.underlying22 rfl (by first | exact hw4.io mem0 | exact hw4.iarg hv | assumption) ?_
  refine v_head (h := _) rfl rfl Try.underlying22 tz5 rfl rfl (by first | exact hw4.io mem0 | exact hw4.iarg hv | assumption) (by first | rfl | omega) (by first | omega | (simp; done) | (simp; omega)) (fun A4_3 c4_3 h4_3 => ?_)
  subst h4_3
  refine l_assign rfl rfl rfl ?_
  refine l_nil ?_
  refine e_then ?_
  refine c_keep [2] (.cons rfl .nil) ?_
  refine c_ret ?_
  refine e_done1 Try.results10 rfl ?_
  refine ⟨_, rfl, ?_⟩
  have hcs : List.replicate 0 (Value.int IntKind.u8 0) ++ bys l ++ [Value.int IntKind.u8 165, Value.int IntKind.u8 90] = bys (l ++ [165, 90]) := by simp [bys]
  have hln : (bys (l ++ [165, 90])).length = l.length + 2 := by simp [bys]
  have h9 := hw4
  rw [hcs, hln] at h9
  exact ⟨_, _, rfl, h9.grows⟩

theorem u8_add77 (c : UInt8) : ((c.toNat : Int) + 77) % 256 = ((c + 77).toNat : Int) := by
  rw [UInt8.toNat_add]
  show _ = (((c.toNat + 77) % 256 : Nat) : Int)
  omega
theorem headB_ok {A : Option Addr} {c : Nat} {l : List UInt8} {w : World} (h : (As.rb 5 (.slice A (l.length + 2) c) (l ++ [165, 90])).ok w) : IV w (.slice A l.length c) (bys l) := by
  obtain ⟨A', c', e, hc, hs⟩ := Own.iv h
  injection e with e1 e2 e3
  subst e1 e3
  have hc' : l.length + 2 ≤ c := by simpa [bys] using hc
  refine ⟨A, c, by simp [bys], by simp [bys]; omega, fun j v hj => hs j v ?_⟩
  have hj' : j < l.length := by simpa [bys] using (List.getElem?_eq_some_iff.1 hj).1
  rw [bys, List.map_append, List.getElem?_append_left (by simpa using hj')]
  exact hj
theorem someB_ok {A : Option Addr} {c : Nat} {l : List UInt8} {w : World} (h : (As.rb 5 (.slice A (l.length + 2) c) (l ++ [165, 90])).ok w) : ∃ ad, A = some ad := by
  obtain ⟨A', c', e, hc, hs⟩ := Own.iv h
  injection e with e1 e2 e3
  subst e1
  exact hs.some_ (by simp [bys])

theorem backB (ad : Addr) (c : Nat) (b : Value) (l : List UInt8) (hL : l.length ≤ 1099511627776) (w : World) (hok : (As.rb 5 (.slice (some ad) (l.length + 2) c) (l ++ [165, 90])).ok w) (hlt : ∀ k, (As.rb 5 (.slice (some ad) (l.length + 2) c) (l ++ [165, 90])).fp k → k < w.heap.size) (hb : ∀ w1 : World, (∀ k, k < w.heap.size → ¬ (As.rb 5 (.slice (some ad) (l.length + 2) c) (l ++ [165, 90])).fp k → w1.heap[k]? = w.heap[k]?) → IV w1 b (bys l)) :
    CallsV P 14 [.slice (some ad) l.length c, b] w fun r w' => r = .bool true ∧ ∃ lo, Turn w w' (As.rb 5 (.slice (some ad) (l.length + 2) c) (l ++ [165, 90])) (As.rb 5 (.slice (some ad) (l.length + 2) c) lo) := by
  refine enterW Try.func14 rfl Try.ntmps14 rfl ?_
  have hw0 := St.startM w hok hlt
  have hlx : (l ++ [165, 90]).length = l.length + 2 := by simp
  have hcap : l.length + 2 ≤ c := by
    obtain ⟨A', c', e, hc, _⟩ := hw0.io mem0
    injection e with e1 e2 e3
    subst e3
    simpa [bys] using hc
  have hhd := headB_ok hok
  refine c_seq ?_
  refine c_region ?_
  refine l_assign rfl rfl rfl ?_
  refine l_nil ?_
  refine e_then ?_
  refine c_keep [0, 1] (.cons rfl (.cons rfl .nil)) ?_
  refine c_seq ?_
  refine c_seq ?_
  refine c_region ?_
  refine l_move rfl rfl rfl ?_
  refine l_move rfl rfl rfl ?_
  refine l_callp rfl rfl Try.func33 rfl rfl (.cons rfl (.cons rfl .nil)) (sameK _ _ l l w hhd (hw0.ikM hb)) ?_
  refine l_turn (s := 9) (v' := .bool true) rfl (by rw [decide_eq_true rfl]) ?_
  first | refine l_notd rfl rfl rfl ?_ | refine l_not rfl rfl rfl ?_
  refine l_turn (s := 10) (v' := .bool false) rfl (by rfl) ?_
  refine l_nil ?_
  refine e_then ?_
  refine c_keep [0, 1, 10] (.cons rfl (.cons rfl (.cons rfl .nil))) ?_
  refine c_cond_f rfl rfl ?_
  refine c_skip ?_
  refine e_then ?_
  refine c_keep [0, 1] (.cons rfl (.cons rfl .nil)) ?_
  refine c_seq ?_
  refine c_region ?_
  refine l_move rfl rfl rfl ?_
  refine l_move rfl rfl rfl ?_
  refine v_lenb rfl rfl Try.underlying22 rfl (by first | exact hw0.io mem0 | exact hw0.ikM hb | assumption) ?_
  refine l_add rfl rfl rfl rfl (w_i64 (by omega)) ?_
  refine l_slice (size := 1) (l := 0) (h := l.length + 2) (mm := c) rfl rfl Try.underlying22 tz5 rfl rfl rfl rfl rfl rfl rfl (by simp) (by omega) hcap (Nat.le_refl _) ?_
  refine l_turn (s := 15) (v' := .slice (some ad) (l.length + 2) c) rfl (by simp [cutA0]) ?_
  refine l_assign rfl rfl rfl ?_
  refine l_nil ?_
  refine e_then ?_
  refine c_keep [0, 1, 5] (.cons rfl (.cons rfl (.cons rfl .nil))) ?_
  refine c_seq ?_
  refine c_seq ?_
  refine c_region ?_
  refine l_move rfl rfl rfl ?_
  refine l_move rfl rfl rfl ?_
  refine v_lenb rfl rfl Try.underlying22 rfl (by first | exact hw0.io mem0 | exact hw0.ikM hb | assumption) ?_
  have hlb : (bys l).length = l.length := by simp [bys]
  refine v_getbr (j := l.length) rfl rfl rfl rfl Try.underlying22 tz5 Try.underlying5 rfl rfl (by first | exact hw0.io mem0 | exact hw0.ikM hb | assumption) rfl (by omega) (by omega) (fun hb4_3 => ?_)
  refine l_neq rfl rfl rfl rfl ?_
  refine l_turn (s := 21) (v' := .bool false) rfl (by simp [List.getD]) ?_
  refine l_move rfl rfl rfl ?_
  refine l_move rfl rfl rfl ?_
  refine l_move rfl rfl rfl ?_
  refine v_lenb rfl rfl Try.underlying22 rfl (by first | exact hw0.io mem0 | exact hw0.ikM hb | assumption) ?_
  refine l_add rfl rfl rfl rfl (w_i64 (by omega)) ?_
  refine v_getbr (j := l.length + 1) rfl rfl rfl rfl Try.underlying22 tz5 Try.underlying5 rfl rfl (by first | exact hw0.io mem0 | exact hw0.ikM hb | assumption) rfl (by omega) (by omega) (fun hb4_11 => ?_)
  refine l_neq rfl rfl rfl rfl ?_
  refine l_turn (s := 29) (v' := .bool false) rfl (by simp [List.getD]) ?_
  refine l_pick_f rfl rfl rfl rfl ?_
  refine l_nil ?_
  refine e_then ?_
  refine c_keep [0, 30] (.cons rfl (.cons rfl .nil)) ?_
  refine c_cond_f rfl rfl ?_
  refine c_skip ?_
  refine e_then ?_
  refine c_keep [0] (.cons rfl .nil) ?_
  refine c_seq ?_
  refine c_seq ?_
  refine c_region ?_
  refine l_assign rfl rfl rfl ?_
  refine l_nil ?_
  refine e_then ?_
  refine c_block ?_
  refine c_loopk (ι := Nat × List UInt8) (fun (z0 : Nat × List UInt8) => match z0 with | ⟨i, o⟩ => l.length - i) (fun (z0 : Nat × List UInt8) (w' : World) => match z0 with | ⟨i, o⟩ => St w w.heap.size (As.rb 5 (.slice (some ad) (l.length + 2) c) (l ++ [165, 90])).fp ([As.rb 5 (.slice (some ad) (l.length + 2) c) o]) w' ∧ i ≤ l.length ∧ o.length = l.length + 2) (fun (z0 : Nat × List UInt8) => match z0 with | ⟨i, o⟩ => [(6, .int .i64 (i : Int))]) [0] (0, l ++ [165, 90]) ?_ (.cons rfl .nil) ?_ ?_
  · exact ⟨hw0, by omega, hlx⟩
  · exact (.cons rfl (by first | rfl | (refine congrArg (Value.int _) ?_; omega)) .nil)
  rintro ⟨i, o⟩ w1 ⟨hw1, hi, hol⟩
  show RunC P _ _ _ (_ :: _) _
  refine c_seq ?_
  refine c_seq ?_
  refine c_region ?_
  refine l_move rfl rfl rfl ?_
  refine l_move rfl rfl rfl ?_
  refine v_lenb rfl rfl Try.underlying22 rfl (by first | exact hw1.io mem0 | exact hw1.ikM hb | assumption) ?_
  refine l_lss rfl rfl rfl rfl ?_
  refine l_nil ?_
  refine e_then ?_
  refine c_keep [0, 6, 34] (.cons rfl (.cons rfl (.cons rfl .nil))) ?_
  first | refine c_cond rfl (fun hc2 => ?_) (fun hc2 => ?_) | refine c_condb rfl (fun hc2 => ?_) (fun hc2 => ?_)
  · skip
    refine c_skip ?_
    refine e_then ?_
    refine c_keep [0, 6] (.cons rfl (.cons rfl .nil)) ?_
    refine c_seq ?_
    refine c_block ?_
    refine c_region ?_
    refine l_move rfl rfl rfl ?_
    refine l_move rfl rfl rfl ?_
    refine l_move rfl rfl rfl ?_
    refine l_move rfl rfl rfl ?_
    refine v_addrx (j := i) rfl rfl Try.underlying22 tz5 rfl rfl rfl (by first | rfl | omega) (by first | omega | (simp; done) | (simp; omega)) ?_
    refine v_loadb rfl rfl Try.underlying5 rfl rfl (by first | exact hw1.io mem0 | exact hw1.ikM hb | assumption) (by first | omega | (simp; done) | (simp; omega)) (fun hb9_5 => ?_)
    refine l_add rfl rfl rfl rfl (w_u8m _) ?_
    refine v_addrx (j := i) rfl rfl Try.underlying22 tz5 rfl rfl rfl (by first | rfl | omega) (by first | omega | (simp; done) | (simp; omega)) ?_
    refine v_storebw hw1 .head rfl (by first | rfl | omega | (simp; done) | (simp; omega)) rfl tz5 rfl rfl (u8_add77 _) (by first | omega | (simp; done) | (simp; omega)) (fun w2 hw2 => ?_)
    try clear hw1
    refine l_nil ?_
    refine e_blk ?_
    refine e_then ?_
    refine c_keep [0, 6] (.cons rfl (.cons rfl .nil)) ?_
    refine c_region ?_
    refine l_move rfl rfl rfl ?_
    refine l_add rfl rfl rfl rfl (w_i64 (by omega)) ?_
    refine l_assign rfl rfl rfl ?_
    refine l_nil ?_
    refine e_againk (i := (i, o)) (i + 1, o.set i (o.getD i 0 + 77)) ?_ ?_ (.cons rfl .nil) ?_
    · first | omega | (simp; omega)
    · exact ⟨hw2, by omega, by simpa using hol⟩
    · exact (.cons rfl (by first | rfl | (refine congrArg (Value.int _) ?_; omega)) .nil)
  · skip
    refine c_exit ?_
    refine e_then_exit ?_
    refine e_then_exit ?_
    refine e_blk_exit ?_
    refine e_then ?_
    refine c_keep [] .nil ?_
    refine c_seq ?_
    refine c_region ?_
    refine l_assign rfl rfl rfl ?_
    refine l_nil ?_
    refine e_then ?_
    refine c_ret ?_
    refine e_done1 Try.results14 rfl ?_
    refine ⟨_, rfl, ?_⟩
    exact ⟨rfl, _, hw1.turns (fun k hk => .inl hk)⟩
end Go.Proofs.Ytjkaahnadaapoaa.W
