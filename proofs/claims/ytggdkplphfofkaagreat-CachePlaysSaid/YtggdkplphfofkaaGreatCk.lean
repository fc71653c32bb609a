/- walks of mintagekeep.Ints, LendInts, BackInts -/
import Derived.Test.YtggdkplphfofkaaGreatCf
import Derived.Test.YtggdkplphfofkaaGreatVr
set_option linter.unusedVariables false
set_option linter.unusedSimpArgs false
set_option maxRecDepth 10000
namespace Go.Proofs.YtggdkplphfofkaaGreat.W
open Go.Vc Go.RowKit
abbrev UI (l : List Int) : Prop := Rg (-9223372036854775808) 9223372036854775807 l
theorem wrap_i64 (x : Int) : -9223372036854775808 ≤ IntKind.i64.wrap x ∧ IntKind.i64.wrap x ≤ 9223372036854775807 := by
 have h : IntKind.i64.wrap x = if x % 18446744073709551616 ≥ 9223372036854775808 then x % 18446744073709551616 - 18446744073709551616 else x % 18446744073709551616 := by
  simp [IntKind.wrap, IntKind.bits, IntKind.signed]
 rw [h]
 split <;> omega
theorem UI.set {l : List Int} (h : UI l) {x : Int} (hx : -9223372036854775808 ≤ x ∧ x ≤ 9223372036854775807) (j : Nat) : UI (l.set j x) := fun y hy => (List.mem_or_eq_of_mem_set hy).elim (h y) (fun e => e ▸ hx)
theorem intsK (a b : Value) (la lb : List Int) (hUa : UI la) (hUb : UI lb) (hLa : la.length ≤ 1099511627776) (hLb : lb.length ≤ 1099511627776) (w : World) (ha : IV w a (ints .i64 la)) (hb : IV w b (ints .i64 lb)) :
  CallsV P 28 [a, b] w fun r w' => r = .bool (decide (la = lb)) ∧ Grow w w' [] := by
 refine enterW Tryz.func28 rfl Tryz.ntmps28 rfl ?_
 have hw0 := St.start w
 refine c_seq (c_region (l_assign rfl rfl rfl (l_nil (e_then ?_))))
 refine c_keep [0, 1] (.cons rfl (.cons rfl .nil)) ?_
 refine c_seq (c_seq (c_region (l_move rfl rfl rfl ?_)))
 refine v_leni rfl rfl Tryz.underlying32 rfl (by first | exact hw0.iarg ha | exact hw0.iarg hb | assumption) ?_
 refine l_move rfl rfl rfl ?_
 refine v_leni rfl rfl Tryz.underlying32 rfl (by first | exact hw0.iarg ha | exact hw0.iarg hb | assumption) ?_
 refine l_neq rfl rfl rfl rfl ?_
 refine l_nil (e_then ?_)
 refine c_keep [0, 1, 10] (.cons rfl (.cons rfl (.cons rfl .nil))) ?_
 first | refine c_cond rfl (fun hc0 => ?_) (fun hc0 => ?_) | refine c_condb rfl (fun hc0 => ?_) (fun hc0 => ?_)
 ·skip
  refine c_seq (c_region (l_assign rfl rfl rfl (l_nil (e_then ?_))))
  refine c_keep [4] (.cons rfl .nil) ?_
  refine c_ret ?_
  refine e_then_ret ?_
  refine e_done1 Tryz.results28 rfl ?_
  refine ⟨_, rfl, ?_⟩
  exact ⟨by rw [decide_eq_false (fun h => by subst h; exact hc0 rfl)], hw0.grows⟩
 ·skip
  refine c_skip (e_then ?_)
  refine c_keep [0, 1] (.cons rfl (.cons rfl .nil)) ?_
  refine c_seq (c_seq (c_region ?_))
  have hlen : la.length = lb.length := by omega
  refine l_assign rfl rfl rfl (l_nil (e_then (c_block ?_)))
  refine c_loopk (ι := Nat) (fun (k : Nat) => la.length - k) (fun (k : Nat) (w' : World) => St w w.heap.size None' ([]) w' ∧ k ≤ la.length ∧ ∀ j, j < k → la.getD j 0 = lb.getD j 0) (fun (k : Nat) => [(5, .int .i64 (k : Int))]) [0, 1] (0) ?_ (.cons rfl (.cons rfl .nil)) ?_ ?_
  ·exact ⟨hw0, by omega, fun j hj => by omega⟩
  ·exact (.cons rfl (by first | rfl | (refine congrArg (Value.int _) ?_; omega)) .nil)
  rintro k w1 ⟨hw1, hk, heq⟩
  show RunC P _ _ _ (_ :: _) _
  refine c_seq (c_seq (c_region (l_move rfl rfl rfl (l_move rfl rfl rfl ?_))))
  refine v_leni rfl rfl Tryz.underlying32 rfl (by first | exact hw1.iarg ha | exact hw1.iarg hb | assumption) ?_
  refine l_lss rfl rfl rfl rfl ?_
  refine l_nil (e_then ?_)
  refine c_keep [0, 1, 5, 14] (.cons rfl (.cons rfl (.cons rfl (.cons rfl .nil)))) ?_
  first | refine c_cond rfl (fun hc1 => ?_) (fun hc1 => ?_) | refine c_condb rfl (fun hc1 => ?_) (fun hc1 => ?_)
  ·skip
   refine c_skip (e_then ?_)
   refine c_keep [0, 1, 5] (.cons rfl (.cons rfl (.cons rfl .nil))) ?_
   refine c_seq (c_block (c_seq ?_))
   refine c_still (by kernel_rfl) (by kernel_rfl) ?_
   have hw2 := hw1.drewn
   try clear hw1
   refine l_move rfl rfl rfl (l_move rfl rfl rfl ?_)
   refine v_getr rfl rfl rfl rfl Tryz.underlying32 tz3 Tryz.underlying3 rfl rfl (by first | exact hw2.iarg ha | exact hw2.iarg hb | assumption) (by assumption) rfl rfl (by first | omega | (simp; done) | (simp; omega)) (fun hb6_2 => ?_)
   refine l_move rfl rfl rfl (l_move rfl rfl rfl ?_)
   refine v_getr rfl rfl rfl rfl Tryz.underlying32 tz3 Tryz.underlying3 rfl rfl (by first | exact hw2.iarg ha | exact hw2.iarg hb | assumption) (by assumption) rfl rfl (by first | omega | (simp; done) | (simp; omega)) (fun hb6_6 => ?_)
   refine l_neq rfl rfl rfl rfl ?_
   refine l_nil (e_then ?_)
   refine c_keep [0, 1, 5, 25] (.cons rfl (.cons rfl (.cons rfl (.cons rfl .nil)))) ?_
   first | refine c_cond rfl (fun hc2 => ?_) (fun hc2 => ?_) | refine c_condb rfl (fun hc2 => ?_) (fun hc2 => ?_)
   ·skip
    refine c_seq (c_region (l_assign rfl rfl rfl (l_nil (e_then ?_))))
    refine c_keep [4] (.cons rfl .nil) ?_
    refine c_ret ?_
    refine e_blk_ret ?_
    refine e_then_ret ?_
    refine e_then_ret ?_
    refine e_blk_ret ?_
    refine e_then_ret ?_
    refine e_done1 Tryz.results28 rfl ?_
    refine ⟨_, rfl, ?_⟩
    exact ⟨by rw [decide_eq_false (fun h => by subst h; exact hc2 rfl)], hw2.grows⟩
   ·skip
    refine c_skip ?_
    refine e_blk ?_
    refine e_then ?_
    refine c_keep [0, 1, 5] (.cons rfl (.cons rfl (.cons rfl .nil))) ?_
    refine c_region (l_move rfl rfl rfl ?_)
    refine l_add rfl rfl rfl rfl (w_i64 (by omega)) ?_
    refine l_assign rfl rfl rfl (l_nil ?_)
    refine e_againk (i := (k)) (k + 1) ?_ ?_ (.cons rfl (.cons rfl .nil)) ?_
    ·first | omega | (simp; omega)
    ·refine ⟨hw2, by omega, fun j hj => ?_⟩
     rcases Nat.lt_or_ge j k with h | h
     ·exact heq j h
     ·obtain rfl : j = k := by omega
      omega
    ·exact (.cons rfl (by first | rfl | (refine congrArg (Value.int _) ?_; omega)) .nil)
  ·skip
   refine c_exit ?_
   refine e_then_exit ?_
   refine e_then_exit ?_
   refine e_blk_exit ?_
   refine e_then ?_
   refine c_keep [] .nil ?_
   refine c_seq (c_region (l_assign rfl rfl rfl (l_nil (e_then ?_))))
   refine c_ret ?_
   refine e_done1 Tryz.results28 rfl ?_
   refine ⟨_, rfl, ?_⟩
   have hke : k = la.length := by omega
   have he : la = lb := by
    refine List.ext_getElem hlen fun j h1 h2 => ?_
    have := heq j (by omega)
    simpa [List.getD, h1, h2] using this
   exact ⟨by rw [decide_eq_true he], hw1.grows⟩
theorem lendI (v : Value) (l : List Int) (hU : UI l) (hL : l.length ≤ 1099511627776) (w : World) (hv : IV w v (ints .i64 l)) :
  CallsV P 16 [v] w fun r w' => ∃ A c, r = .slice A l.length c ∧ Grow w w' [As.ri 3 .i64 (.slice A (l.length + 1) c) (l ++ [42330])] := by
 refine enterW Tryz.func16 rfl Tryz.ntmps16 rfl ?_
 have hw0 := St.start w
 refine c_seq (c_region (l_assign rfl rfl rfl (l_nil (e_then ?_))))
 refine c_keep [0] (.cons rfl .nil) ?_
 refine c_seq (c_region (l_move rfl rfl rfl ?_))
 refine v_leni rfl rfl Tryz.underlying32 rfl (by first | exact hw0.iarg hv | assumption) ?_
 refine l_add rfl rfl rfl rfl (w_i64 (by omega)) ?_
 refine v_make (m := 0) (c := l.length + 1) hw0 rfl rfl Tryz.underlying32 ti3 rfl rfl rfl (by omega) (by omega) (by omega) (by omega) (by omega) (fun v1_3 w1 hw1 => ?_)
 try clear hw0
 refine l_assign rfl rfl rfl (l_nil (e_then ?_))
 refine c_keep [0, 3] (.cons rfl (.cons rfl .nil)) ?_
 refine c_seq (c_region (l_move rfl rfl rfl (l_move rfl rfl rfl ?_)))
 refine v_append0 hw1 rfl rfl Tryz.underlying32 ti3 rfl rfl rfl (by first | exact hw1.io mem0 | exact hw1.iarg hv | assumption) (by first | exact ints_one _ _ | exact bys_one _ | simp [Value.oneCell']) (by first | (simp; done) | (simp; omega)) (by first | (simp; done) | (simp; omega)) (fun v2_2 w2 hw2 => ?_)
 try clear hw1
 refine l_assign rfl rfl rfl (l_nil (e_then ?_))
 refine c_keep [0, 3] (.cons rfl (.cons rfl .nil)) ?_
 refine c_seq (c_region (l_move rfl rfl rfl ?_))
 refine v_lit hw2 rfl rfl Tryz.underlying32 ti3 rfl (.cons rfl (by first | rfl | assumption) .nil) rfl rfl rfl (fun b3_1 w3 hw3 => ?_)
 try clear hw2
 refine v_push hw3 rfl rfl Tryz.underlying32 ti3 rfl rfl rfl rfl (by first | (simp [Value.oneCell']; done) | (intro u hu; rw [List.mem_singleton.1 hu]; assumption)) (by first | (simp; done) | (simp; omega)) (by first | (simp; done) | (simp; omega)) (fun v3_2 w4 hw4 => ?_)
 try clear hw3
 refine l_assign rfl rfl rfl (l_nil (e_then ?_))
 refine c_keep [0, 3] (.cons rfl (.cons rfl .nil)) ?_
 refine c_seq (c_region (l_move rfl rfl rfl (l_move rfl rfl rfl ?_)))
 refine v_leni rfl rfl Tryz.underlying32 rfl (by first | exact hw4.io mem0 | exact hw4.iarg hv | assumption) ?_
 refine v_head (h := _) rfl rfl Tryz.underlying32 tz3 rfl rfl (by first | exact hw4.io mem0 | exact hw4.iarg hv | assumption) (by first | rfl | omega) (by first | omega | (simp; done) | (simp; omega)) (fun A4_3 c4_3 h4_3 => ?_)
 subst h4_3
 refine l_assign rfl rfl rfl (l_nil (e_then ?_))
 refine c_keep [2] (.cons rfl .nil) ?_
 refine c_ret ?_
 refine e_done1 Tryz.results16 rfl ?_
 refine ⟨_, rfl, ?_⟩
 have hcs : List.replicate 0 (Value.int IntKind.i64 0) ++ ints .i64 l ++ [Value.int IntKind.i64 42330] = ints .i64 (l ++ [42330]) := by simp [ints]
 have hln : (ints .i64 (l ++ [42330])).length = l.length + 1 := by simp
 have h9 := hw4
 rw [hcs, hln] at h9
 exact ⟨_, _, rfl, h9.grows⟩
theorem backI (ad : Addr) (c : Nat) (b : Value) (l : List Int) (hU : UI l) (hL : l.length ≤ 1099511627776) (w : World) (hok : (As.ri 3 .i64 (.slice (some ad) (l.length + 1) c) (l ++ [42330])).ok w) (hlt : ∀ k, (As.ri 3 .i64 (.slice (some ad) (l.length + 1) c) (l ++ [42330])).fp k → k < w.heap.size) (hb : ∀ w1 : World, (∀ k, k < w.heap.size → ¬ (As.ri 3 .i64 (.slice (some ad) (l.length + 1) c) (l ++ [42330])).fp k → w1.heap[k]? = w.heap[k]?) → IV w1 b (ints .i64 l)) :
  CallsV P 19 [.slice (some ad) l.length c, b] w fun r w' => r = .bool true ∧ ∃ lo, Turn w w' (As.ri 3 .i64 (.slice (some ad) (l.length + 1) c) (l ++ [42330])) (As.ri 3 .i64 (.slice (some ad) (l.length + 1) c) lo) := by
 refine enterW Tryz.func19 rfl Tryz.ntmps19 rfl ?_
 have hw0 := St.startM w hok hlt
 have hUm : UI (l ++ [42330]) := fun x hx => (List.mem_append.1 hx).elim (hU x) (fun h => by rw [List.mem_singleton.1 h]; omega)
 have hlx : (l ++ [42330]).length = l.length + 1 := by simp
 have hiv := hw0.io mem0
 have hcap : l.length + 1 ≤ c := by
  obtain ⟨A', c', e, hc, _⟩ := hiv
  injection e with e1 e2 e3
  subst e3
  simpa using hc
 have hhd : IV w (.slice (some ad) l.length c) (ints .i64 l) := by
  obtain ⟨A', c', e, hc, hs⟩ := hiv
  injection e with e1 e2 e3
  subst e1 e3
  refine ⟨some ad, c, by simp, by simp; omega, fun j v hj => hs j v ?_⟩
  have hj' : j < l.length := by simpa using (List.getElem?_eq_some_iff.1 hj).1
  rw [ints, List.map_append, List.getElem?_append_left (by simpa using hj')]
  exact hj
 clear hiv
 refine c_seq (c_region (l_assign rfl rfl rfl (l_nil (e_then ?_))))
 refine c_keep [0, 1] (.cons rfl (.cons rfl .nil)) ?_
 refine c_seq (c_seq (c_region (l_move rfl rfl rfl (l_move rfl rfl rfl ?_))))
 refine l_call rfl rfl Tryz.func28 rfl rfl (.cons rfl (.cons rfl .nil)) (intsK _ _ l l hU hU hL hL w hhd (hw0.ikM hb)) ?_
 rintro _ w1 ⟨rfl, hG⟩
 have hw1 := hG _ _ _ _ hw0
 try clear hG hw0
 simp only [List.cons_append, List.nil_append] at hw1
 refine l_turn (s := 8) (v' := .bool true) rfl (by rw [decide_eq_true rfl]) ?_
 first | refine l_notd rfl rfl rfl ?_ | refine l_not rfl rfl rfl ?_
 refine l_turn (s := 9) (v' := .bool false) rfl (by rfl) ?_
 refine l_move rfl rfl rfl (l_move rfl rfl rfl (l_move rfl rfl rfl ?_))
 refine v_leni rfl rfl Tryz.underlying32 rfl (by first | exact hw1.io mem0 | exact hw1.ikM hb | assumption) ?_
 refine l_add rfl rfl rfl rfl (w_i64 (by omega)) ?_
 refine l_slice (size := 1) (l := 0) (h := l.length + 1) (mm := c) rfl rfl Tryz.underlying32 tz3 rfl rfl rfl rfl rfl rfl rfl (by simp) (by omega) hcap (Nat.le_refl _) ?_
 refine l_turn (s := 15) (v' := .slice (some ad) (l.length + 1) c) rfl (by simp [cutA0]) ?_
 refine l_move rfl rfl rfl ?_
 refine v_leni rfl rfl Tryz.underlying32 rfl (by first | exact hw1.io mem0 | exact hw1.ikM hb | assumption) ?_
 refine v_getr (j := l.length) rfl rfl rfl rfl Tryz.underlying32 tz3 Tryz.underlying3 rfl rfl (by first | exact hw1.io mem0 | exact hw1.ikM hb | assumption) (by assumption) rfl (by omega) (by first | omega | (simp; done) | (simp; omega)) (fun hb1_12 => ?_)
 refine l_neq rfl rfl rfl rfl ?_
 refine l_turn (s := 20) (v' := .bool false) rfl (by simp [List.getD]) ?_
 refine l_pick_f rfl rfl rfl rfl ?_
 refine l_nil (e_then ?_)
 refine c_keep [0, 21] (.cons rfl (.cons rfl .nil)) ?_
 refine c_cond_f rfl rfl ?_
 refine c_skip (e_then ?_)
 refine c_keep [0] (.cons rfl .nil) ?_
 refine c_seq (c_seq (c_region (l_assign rfl rfl rfl (l_nil (e_then ?_)))))
 refine c_block ?_
 refine c_loopk (ι := Nat × List Int) (fun (z0 : Nat × List Int) => match z0 with | ⟨i, o⟩ => l.length - i) (fun (z0 : Nat × List Int) (w' : World) => match z0 with | ⟨i, o⟩ => St w w.heap.size (As.ri 3 .i64 (.slice (some ad) (l.length + 1) c) (l ++ [42330])).fp ([As.ri 3 .i64 (.slice (some ad) (l.length + 1) c) o]) w' ∧ i ≤ l.length ∧ o.length = l.length + 1 ∧ UI o) (fun (z0 : Nat × List Int) => match z0 with | ⟨i, o⟩ => [(5, .int .i64 (i : Int))]) [0] (0, l ++ [42330]) ?_ (.cons rfl .nil) ?_ ?_
 ·exact ⟨hw1, by omega, hlx, hUm⟩
 ·exact (.cons rfl (by first | rfl | (refine congrArg (Value.int _) ?_; omega)) .nil)
 rintro ⟨i, o⟩ w2 ⟨hw2, hi, hol, hUo⟩
 show RunC P _ _ _ (_ :: _) _
 refine c_seq (c_seq (c_region (l_move rfl rfl rfl (l_move rfl rfl rfl ?_))))
 refine v_leni rfl rfl Tryz.underlying32 rfl (by first | exact hw2.io mem0 | exact hw2.ikM hb | assumption) ?_
 refine l_lss rfl rfl rfl rfl ?_
 refine l_nil (e_then ?_)
 refine c_keep [0, 5, 25] (.cons rfl (.cons rfl (.cons rfl .nil))) ?_
 first | refine c_cond rfl (fun hc1 => ?_) (fun hc1 => ?_) | refine c_condb rfl (fun hc1 => ?_) (fun hc1 => ?_)
 ·skip
  refine c_skip (e_then ?_)
  refine c_keep [0, 5] (.cons rfl (.cons rfl .nil)) ?_
  refine c_seq (c_block (c_region (l_move rfl rfl rfl (l_move rfl rfl rfl (l_move rfl rfl rfl ?_)))))
  refine l_move rfl rfl rfl ?_
  refine v_addrx (j := i) rfl rfl Tryz.underlying32 tz3 rfl rfl rfl (by first | rfl | omega) (by first | omega | (simp; done) | (simp; omega)) ?_
  refine v_loadi rfl rfl Tryz.underlying3 rfl rfl (by first | exact hw2.io mem0 | exact hw2.ikM hb | assumption) (by assumption) (by first | omega | (simp; done) | (simp; omega)) (fun hb6_5 => ?_)
  refine l_add rfl rfl rfl rfl (rfl) ?_
  refine v_addrx (j := i) rfl rfl Tryz.underlying32 tz3 rfl rfl rfl (by first | rfl | omega) (by first | omega | (simp; done) | (simp; omega)) ?_
  refine v_storeiw hw2 .head rfl (by first | rfl | omega | (simp; done) | (simp; omega)) rfl tz3 rfl rfl (by first | omega | (simp; done) | (simp; omega)) (fun w3 hw3 => ?_)
  try clear hw2
  refine l_nil ?_
  refine e_blk ?_
  refine e_then ?_
  refine c_keep [0, 5] (.cons rfl (.cons rfl .nil)) ?_
  refine c_region (l_move rfl rfl rfl ?_)
  refine l_add rfl rfl rfl rfl (w_i64 (by omega)) ?_
  refine l_assign rfl rfl rfl (l_nil ?_)
  refine e_againk (i := (i, o)) (i + 1, o.set i (IntKind.i64.wrap (o.getD i 0 + 77))) ?_ ?_ (.cons rfl .nil) ?_
  ·first | omega | (simp; omega)
  ·exact ⟨hw3, by omega, by simpa using hol, UI.set hUo (wrap_i64 _) _⟩
  ·exact (.cons rfl (by first | rfl | (refine congrArg (Value.int _) ?_; omega)) .nil)
 ·skip
  refine c_exit ?_
  refine e_then_exit ?_
  refine e_then_exit ?_
  refine e_blk_exit ?_
  refine e_then ?_
  refine c_keep [] .nil ?_
  refine c_seq (c_region (l_assign rfl rfl rfl (l_nil (e_then ?_))))
  refine c_ret ?_
  refine e_done1 Tryz.results19 rfl ?_
  refine ⟨_, rfl, ?_⟩
  exact ⟨rfl, _, hw2.turns (fun k hk => .inl hk)⟩
end Go.Proofs.YtggdkplphfofkaaGreat.W
