/- the law GateAlike -/
import Derived.Test.YtgfkagaacdblbaaYw
set_option linter.unusedVariables false
set_option linter.unusedSimpArgs false
set_option maxRecDepth 10000
namespace Go.Proofs.Ytgfkagaacdblbaa.W
open Go.Vc Go.RowKit
theorem xs_iv {w : World} {xs : List (Value × List Int)} {ls : List (List Int)} (h : (As.sep (xs.map fun p : Value × List Int => As.ri 3 .i64 p.1 p.2)).ok w) (hx : xs.map Prod.snd = ls) : ∀ (j : Nat) (x : Value) (l : List Int), (xs.map Prod.fst)[j]? = some x → ls[j]? = some l → IV w x (ints .i64 l) := fun j x l h1 h2 => by
 subst hx
 rw [List.getElem?_map] at h1 h2
 cases hp : xs[j]? with
 | none => rw [hp] at h1; cases h1
 | some p =>
  rw [hp] at h1 h2
  cases h1
  cases h2
  exact Own.iv (h.1 _ (List.mem_map.2 ⟨p, List.mem_of_getElem? hp, rfl⟩))
theorem okA_rg {ls : List (List Int)} (h : okA ls) : ∀ l ∈ ls, Rg (-9223372036854775808) 9223372036854775807 l ∧ l.length ≤ 1099511627776 := fun l hl =>
 ⟨fun q hq => by have := (h.2 l hl).2 q hq; omega, by have := (h.2 l hl).1; omega⟩
theorem xs_len {xs : List (Value × List Int)} {ls : List (List Int)} (hx : xs.map Prod.snd = ls) : (xs.map Prod.fst).length = ls.length := by
 rw [← hx]; simp
theorem argG {w wc : World} {τ σ : List As} {v : Value} {cs : List Value} (hw : St w w.heap.size None' (τ ++ σ) wc) (h : IV w v cs) : ∀ w1 : World, (∀ k, k < wc.heap.size → ¬ fps τ k → w1.heap[k]? = wc.heap[k]?) → IV w1 v cs := fun w1 h1 =>
 h.mono fun j hj => (h1 j (Nat.lt_of_lt_of_le hj hw.ext.size) fun ⟨A, hA, hf⟩ => by
  rcases (hw.sep.lt (List.mem_append_left _ hA) j hf).1 with h2 | h2
  ·omega
  ·exact h2).trans (hw.ext.block j hj (fun e => e))
theorem iv_cutE {w : World} {v : Value} {l : List Int} {n : Nat} (h : IV w v (ints .i64 l)) (hn : n ≤ l.length) : ∃ A c, v = .slice A l.length c ∧ l.length ≤ c ∧ IV w (.slice (cutA A 0 c 1) (n - 0) (c - 0)) (ints .i64 (l.take n)) := by
 obtain ⟨A, c, e, hc, hs⟩ := h
 rw [List.length_map] at e hc
 refine ⟨A, c, e, hc, ?_⟩
 have := IV.cut (c := 0) (l := 0) (k := n) (m := c) hs (Nat.zero_le _) (by simpa using hn) (by omega)
 rw [List.drop_zero, show (ints .i64 l).take n = ints .i64 (l.take n) from by simp [ints]] at this
 exact this
theorem sgF_nat {G : GW} {s : Nat} (hs : s < 41) : sgF G (s : Int) = sgN G s := by
 unfold sgF
 rw [if_pos (by omega)]
 rfl
theorem alike_b {ls : List (List Int)} {G H : GW} (hg : Iv ls G) (hmg : movesG G = []) (hh : Iv ls H) (hmh : movesG H = []) {s : Nat} (hs : s < 41) : (sgF G (s : Int)).built = (sgF H (s : Int)).built := by
 rw [sgF_nat hs, sgF_nat hs]
 rcases hg.built hmg hs with ⟨h1, h2, _⟩ | ⟨h1, h2, _⟩ <;> rcases hh.built hmh hs with ⟨h3, h4, _⟩ | ⟨h3, h4, _⟩
 ·rw [h2, h4]
 ·exact absurd h1 h3
 ·exact absurd h3 h1
 ·rw [h2, h4]
theorem readA_at {l : List Int} {j : Nat} (h : j < (readA l).length) : (readA l)[j]? = some (wrow (entS (l.getD j 0)).1) := by
 have h : j < l.length := by simpa [readA] using h
 simp [readA, List.getD, h]
theorem widesL (va vb : Value) (l : List Int) (hll : l.length ≤ 100000) (w : World) (ha : IK w 2 va (readA l)) (hb : IK w 2 vb (readA l)) :
  CallsV P 14 [va, vb] w fun r w' => r = .bool true ∧ Grow w w' [] := by
 refine enterW Try.func14 rfl Try.ntmps14 rfl ?_
 have hw0 := St.start w
 have hrl0 : (readA l).length = l.length := by simp [readA]
 refine c_seq (c_region (l_assign rfl rfl rfl (l_nil (e_then ?_))))
 refine c_keep [0, 1] (.cons rfl (.cons rfl .nil)) ?_
 refine c_seq (c_seq (c_region (l_move rfl rfl rfl ?_)))
 refine k_len rfl rfl Try.underlying34 rfl (hw0.ikarg ha) ?_
 refine l_move rfl rfl rfl ?_
 refine k_len rfl rfl Try.underlying34 rfl (hw0.ikarg hb) ?_
 refine l_neq rfl rfl rfl rfl ?_
 refine l_turn (s := 10) (v' := .bool false) rfl (by simp) ?_
 refine l_nil (e_then ?_)
 refine c_keep [0, 1, 10] (.cons rfl (.cons rfl (.cons rfl .nil))) ?_
 refine c_cond_f rfl rfl ?_
 refine c_skip (e_then ?_)
 refine c_keep [0, 1] (.cons rfl (.cons rfl .nil)) ?_
 refine c_seq (c_seq (c_region (l_assign rfl rfl rfl (l_nil (e_then ?_)))))
 refine c_block ?_
 refine c_loopk (ι := Nat) (fun (i : Nat) => (readA l).length - i) (fun (i : Nat) (w' : World) => St w w.heap.size None' ([]) w' ∧ i ≤ (readA l).length) (fun (i : Nat) => [(5, .int .i64 (i : Int))]) [0, 1] (0) ?_ (.cons rfl (.cons rfl .nil)) ?_ ?_
 ·exact ⟨hw0, by omega⟩
 ·exact (.cons rfl (by first | rfl | (refine congrArg (Value.int _) ?_; omega)) .nil)
 rintro i w1 ⟨hw1, hi⟩
 show RunC P _ _ _ (_ :: _) _
 refine c_seq (c_seq (c_region (l_move rfl rfl rfl (l_move rfl rfl rfl ?_))))
 refine k_len rfl rfl Try.underlying34 rfl (hw1.ikarg ha) ?_
 refine l_lss rfl rfl rfl rfl ?_
 refine l_nil (e_then ?_)
 refine c_keep [0, 1, 5, 14] (.cons rfl (.cons rfl (.cons rfl (.cons rfl .nil)))) ?_
 first | refine c_cond rfl (fun hc1 => ?_) (fun hc1 => ?_) | refine c_condb rfl (fun hc1 => ?_) (fun hc1 => ?_)
 ·skip
  refine c_skip (e_then ?_)
  refine c_keep [0, 1, 5] (.cons rfl (.cons rfl (.cons rfl .nil))) ?_
  refine c_seq (c_block (c_seq ?_))
  have hw2 := hw1.drewn
  try clear hw1
  have hrl : (readA l).length = l.length := by simp [readA]
  have hi1 : i < (readA l).length := by omega
  have hrw := readA_at hi1
  obtain ⟨A6, c6, hA6⟩ : ∃ A c, va = .slice (some A) (readA l).length c := by
   obtain ⟨_, A, c, e, _, hs⟩ := hw2.ikarg ha
   obtain ⟨ad, rfl⟩ := hs.some_ (by rw [(readA_rows _).len]; omega)
   exact ⟨ad, c, e⟩
  obtain ⟨B6, d6, hB6⟩ : ∃ A c, vb = .slice (some A) (readA l).length c := by
   obtain ⟨_, A, c, e, _, hs⟩ := hw2.ikarg hb
   obtain ⟨ad, rfl⟩ := hs.some_ (by rw [(readA_rows _).len]; omega)
   exact ⟨ad, c, e⟩
  refine c_any (n := 9) [false, false, false, false, false, false, false, false, false] (fun wS => IK wS 2 va (readA l) ∧ IK wS 2 vb (readA l)) (by kernel_rfl) rfl rfl ?_
  apply a_take (L' := [true, false, false, false, false, false, false, false, false]) 0 rfl (by kernel_rfl) (by kernel_rfl) (by kernel_rfl) rfl rfl rfl rfl rfl (⟨hw2.ikarg ha, hw2.ikarg hb⟩)
  ·intro wS sS
   refine l_move rfl rfl rfl (l_nil ?_)
   exact e_got rfl
  apply a_take (L' := [true, true, false, false, false, false, false, false, false]) 1 rfl (by kernel_rfl) (by kernel_rfl) (by kernel_rfl) rfl rfl rfl rfl rfl (⟨hw2.ikarg ha, hw2.ikarg hb⟩)
  ·intro wS sS
   refine l_move rfl rfl rfl (l_nil ?_)
   exact e_got rfl
  apply a_take (L' := [true, true, true, false, false, false, false, false, false]) 2 rfl (by kernel_rfl) (by kernel_rfl) (by kernel_rfl) rfl rfl rfl rfl rfl (⟨hw2.ikarg ha, hw2.ikarg hb⟩)
  ·intro wS sS
   refine k_addrx (j := i) rfl rfl Try.underlying34 tz77 (by decide) rfl rfl sS.1 hA6 rfl hi1 ?_
   refine l_nil ?_
   exact e_got rfl
  apply a_take (L' := [true, true, true, true, false, false, false, false, false]) 3 rfl (by kernel_rfl) (by kernel_rfl) (by kernel_rfl) rfl rfl rfl rfl rfl (⟨hw2.ikarg ha, hw2.ikarg hb⟩)
  ·intro wS sS
   refine k_load (j := i) rfl rfl Try.underlying77 rfl tz77 rfl hA6 sS.1 hrw ?_
   refine l_nil ?_
   exact e_got rfl
  apply a_take (L' := [true, true, true, true, true, false, false, false, false]) 4 rfl (by kernel_rfl) (by kernel_rfl) (by kernel_rfl) rfl rfl rfl rfl rfl (⟨hw2.ikarg ha, hw2.ikarg hb⟩)
  ·intro wS sS
   refine l_move rfl rfl rfl (l_nil ?_)
   exact e_got rfl
  apply a_take (L' := [true, true, true, true, true, true, false, false, false]) 5 rfl (by kernel_rfl) (by kernel_rfl) (by kernel_rfl) rfl rfl rfl rfl rfl (⟨hw2.ikarg ha, hw2.ikarg hb⟩)
  ·intro wS sS
   refine l_move rfl rfl rfl (l_nil ?_)
   exact e_got rfl
  apply a_take (L' := [true, true, true, true, true, true, true, false, false]) 6 rfl (by kernel_rfl) (by kernel_rfl) (by kernel_rfl) rfl rfl rfl rfl rfl (⟨hw2.ikarg ha, hw2.ikarg hb⟩)
  ·intro wS sS
   refine k_addrx (j := i) rfl rfl Try.underlying34 tz77 (by decide) rfl rfl sS.2 hB6 rfl hi1 ?_
   refine l_nil ?_
   exact e_got rfl
  apply a_take (L' := [true, true, true, true, true, true, true, true, false]) 7 rfl (by kernel_rfl) (by kernel_rfl) (by kernel_rfl) rfl rfl rfl rfl rfl (⟨hw2.ikarg ha, hw2.ikarg hb⟩)
  ·intro wS sS
   refine k_load (j := i) rfl rfl Try.underlying77 rfl tz77 rfl hB6 sS.2 hrw ?_
   refine l_nil ?_
   exact e_got rfl
  apply a_take (L' := [true, true, true, true, true, true, true, true, true]) 8 rfl (by kernel_rfl) (by kernel_rfl) (by kernel_rfl) rfl rfl rfl rfl rfl (⟨hw2.ikarg ha, hw2.ikarg hb⟩)
  ·intro wS sS
   refine l_neqA rfl rfl fl77 rfl rfl (.int rfl rfl (.int rfl rfl .nil)) ?_
   refine l_turn (s := 25) (v' := .bool false) rfl (by simp) ?_
   refine l_nil ?_
   exact e_got rfl
  refine a_done (by kernel_rfl) ?_
  refine e_then ?_
  refine c_keep [0, 1, 5, 25] (.cons rfl (.cons rfl (.cons rfl (.cons rfl .nil)))) ?_
  refine c_cond_f rfl rfl ?_
  refine c_skip ?_
  refine e_blk ?_
  refine e_then ?_
  refine c_keep [0, 1, 5] (.cons rfl (.cons rfl (.cons rfl .nil))) ?_
  refine c_region (l_move rfl rfl rfl ?_)
  refine l_add rfl rfl rfl rfl (w_i64 (by omega)) ?_
  refine l_assign rfl rfl rfl (l_nil ?_)
  refine e_againk (i := (i)) (i + 1) ?_ ?_ (.cons rfl (.cons rfl .nil)) ?_
  ·first | omega | (simp; omega)
  ·exact ⟨hw2, by omega⟩
  ·exact (.cons rfl (by first | rfl | (refine congrArg (Value.int _) ?_; omega)) .nil)
 ·skip
  refine c_exit ?_
  refine e_then_exit ?_
  refine e_then_exit ?_
  refine e_blk_exit ?_
  refine e_then ?_
  refine c_keep [] .nil ?_
  refine c_seq (c_region (l_assign rfl rfl rfl (l_nil (e_then ?_))))
  refine c_ret ?_
  refine e_done1 Try.results14 rfl ?_
  refine ⟨_, rfl, ?_⟩
  exact ⟨rfl, hw1.grows⟩
theorem gateAlikeL (v : Value) (vs : List Value) (ls : List (List Int)) (hvl : vs.length = ls.length) (hrg : ∀ l ∈ ls, Rg (-9223372036854775808) 9223372036854775807 l) (v1 v2 : Value) (l1 l2 : List Int) (hrl1 : Rg (-9223372036854775808) 9223372036854775807 l1) (hrl2 : Rg (-9223372036854775808) 9223372036854775807 l2) (w : World) (hv : IV w v vs) (hvs : ∀ (j : Nat) (x : Value) (l : List Int), vs[j]? = some x → ls[j]? = some l → IV w x (ints .i64 l)) (hv1 : IV w v1 (ints .i64 l1)) (hv2 : IV w v2 (ints .i64 l2)) :
  CallsV P 3 [v, v1, v2] w fun r w' => r = .bool true ∧ Grow w w' [] := by
 refine enterW Try.func3 rfl Try.ntmps3 rfl ?_
 have hw0 := St.start w
 refine c_seq (c_region (l_assign rfl rfl rfl (l_nil (e_then ?_))))
 refine c_keep [0, 1, 2] (.cons rfl (.cons rfl (.cons rfl .nil))) ?_
 refine c_seq (c_region (l_move rfl rfl rfl ?_))
 refine l_call rfl rfl Try.func8 rfl rfl (.cons rfl .nil) (AsksL v vs ls hvl hrg w (hw0.iarg hv) (fun j x l h1 h2 => hw0.iarg (hvs j x l h1 h2))) ?_
 rintro vo w1 ⟨_, xs, rfl, hxs, hG⟩
 have hw1 := hG _ _ _ _ hw0
 try clear hG hw0
 simp only [List.cons_append, List.nil_append] at hw1
 refine l_assign rfl rfl rfl (l_nil (e_then ?_))
 refine c_keep [0, 1, 2] (.cons rfl (.cons rfl (.cons rfl .nil))) ?_
 refine c_seq (c_region (l_move rfl rfl rfl ?_))
 refine l_call rfl rfl Try.func9 rfl rfl (.cons rfl .nil) (newOk vo (xs.map Prod.fst) (asksF ls) (xs_len hxs) (by rw [xs_len hxs]; have := (asksF_ok ls).1; omega) (okA_rg (asksF_ok ls)) (asksF_ok ls) w1 (hw1.io mem0) (xs_iv (hw1.ok mem1) hxs)) ?_
 rintro _ w2 ⟨gb, gX, rfl, hgX, hG⟩
 have hw2 := hG _ _ _ _ hw1
 simp only [gW, List.cons_append, List.nil_append] at hw2
 try clear hX hw1
 refine l_move rfl rfl rfl (l_extract rfl rfl rfl rfl (l_extract rfl rfl rfl rfl (l_assign rfl rfl rfl (l_assign rfl rfl rfl (l_nil ?_)))))
 refine e_then ?_
 refine c_keep [0, 1, 2, 7, 8] (.cons rfl (.cons rfl (.cons rfl (.cons rfl (.cons rfl .nil))))) ?_
 refine c_seq (c_region (l_move rfl rfl rfl ?_))
 refine l_call rfl rfl Try.func9 rfl rfl (.cons rfl .nil) (newOk vo (xs.map Prod.fst) (asksF ls) (xs_len hxs) (by rw [xs_len hxs]; have := (asksF_ok ls).1; omega) (okA_rg (asksF_ok ls)) (asksF_ok ls) w2 (hw2.io mem4) (xs_iv (hw2.ok mem5) hxs)) ?_
 rintro _ w3 ⟨hb, hX, rfl, hhX, hG⟩
 have hw3 := hG _ _ _ _ hw2
 simp only [gW, List.cons_append, List.nil_append] at hw3
 try clear hX hw2
 refine l_move rfl rfl rfl (l_extract rfl rfl rfl rfl (l_extract rfl rfl rfl rfl (l_assign rfl rfl rfl (l_assign rfl rfl rfl (l_nil ?_)))))
 refine e_then ?_
 refine c_keep [0, 1, 2, 7, 8, 9, 10] (.cons rfl (.cons rfl (.cons rfl (.cons rfl (.cons rfl (.cons rfl (.cons rfl .nil))))))) ?_
 refine c_seq (c_seq (c_region ?_))
 have hx16 : (xs.map Prod.fst).length ≤ 16 := by rw [xs_len hxs]; exact (asksF_ok ls).1
 have hIg : Iv (asksF ls) gX.abs := by rw [hgX]; exact newG_iv (asksF_ok ls)
 have hIh : Iv (asksF ls) hX.abs := by rw [hhX]; exact newG_iv (asksF_ok ls)
 refine l_move rfl rfl rfl ?_
 refine l_callp rfl rfl Try.func10 rfl rfl (.cons rfl .nil) (numL28 _ _) ?_
 refine l_neq rfl rfl rfl rfl ?_
 refine l_turn (s := 27) (v' := .bool false) rfl (by rfl) ?_
 refine l_move rfl rfl rfl (l_move rfl rfl rfl ?_)
 refine l_callp rfl rfl Try.func10 rfl rfl (.cons rfl .nil) (numL28 _ _) ?_
 refine l_neq rfl rfl rfl rfl ?_
 refine l_turn (s := 31) (v' := .bool false) rfl (by rfl) ?_
 refine l_pick_f rfl rfl rfl rfl ?_
 refine l_move rfl rfl rfl (l_move rfl rfl rfl ?_)
 refine l_eqlp (by kernel_rfl) rfl rfl rfl rfl ?_
 refine l_turn (s := 35) (v' := .bool false) rfl (by rfl) ?_
 refine l_pick_f rfl rfl rfl rfl ?_
 refine l_move rfl rfl rfl (l_move rfl rfl rfl ?_)
 refine l_eqlp (by kernel_rfl) rfl rfl rfl rfl ?_
 refine l_turn (s := 39) (v' := .bool false) rfl (by rfl) ?_
 refine l_pick_f rfl rfl rfl rfl ?_
 refine l_move rfl rfl rfl ?_
 refine l_call rfl rfl Try.func11 rfl rfl .nil (wakes28 w3) ?_
 rintro _ w4 ⟨rfl, hG⟩
 have hw4 := hG _ _ _ _ hw3
 try clear hG hw3
 simp only [List.cons_append, List.nil_append] at hw4
 first | refine l_notd rfl rfl rfl ?_ | refine l_not rfl rfl rfl ?_
 refine l_turn (s := 43) (v' := .bool false) rfl (by rfl) ?_
 refine l_pick_f rfl rfl rfl rfl ?_
 refine l_nil (e_then ?_)
 refine c_keep [0, 1, 2, 7, 9, 44] (.cons rfl (.cons rfl (.cons rfl (.cons rfl (.cons rfl (.cons rfl .nil)))))) ?_
 refine c_cond_f rfl rfl ?_
 refine c_skip (e_then ?_)
 refine c_keep [0, 1, 2, 7, 9] (.cons rfl (.cons rfl (.cons rfl (.cons rfl (.cons rfl .nil))))) ?_
 refine c_cutk (ι := Value) (fun (q1 : Value) (w' : World) => St w w.heap.size None' (gW gb gX ++ gW hb hX ++ [As.ro 23 vo (xs.map Prod.fst), As.sep (xs.map (fun p : Value × List Int => As.ri 3 .i64 p.1 p.2))]) w' ∧ IV w q1 (ints .i64 (l1.take 400))) (fun (q1 : Value) => [(1, q1)]) [0, 2, 7, 9] (.cons rfl (.cons rfl (.cons rfl (.cons rfl .nil)))) ?_ ?_
 ·skip
  refine c_seq (c_region (l_move rfl rfl rfl ?_))
  refine v_leni rfl rfl Try.underlying23 rfl (by first | exact hw4.ibl mem0 | exact hw4.ik (by assumption) mem1 | exact hw4.io mem2 | exact hw4.ibl mem4 | exact hw4.ik (by assumption) mem5 | exact hw4.io mem6 | exact hw4.io mem8 | exact hw4.iarg hv | exact hw4.iarg hv1 | exact hw4.iarg hv2 | assumption) ?_
  refine l_gtr rfl rfl rfl rfl ?_
  refine l_nil (e_then ?_)
  refine c_keep [0, 1, 2, 7, 9, 47] (.cons rfl (.cons rfl (.cons rfl (.cons rfl (.cons rfl (.cons rfl .nil)))))) ?_
  first | refine c_cond rfl (fun hc1 => ?_) (fun hc1 => ?_) | refine c_condb rfl (fun hc1 => ?_) (fun hc1 => ?_)
  ·skip
   refine c_region (l_move rfl rfl rfl ?_)
   obtain ⟨A1, c1, hv1, hc1, hq1⟩ := iv_cutE (n := 400) hv1 (by omega)
   refine l_slice (size := 1) (l := 0) (h := 400) (mm := c1) rfl rfl Try.underlying23 tz3 (by show some v1 = _; rw [hv1]) rfl rfl rfl rfl rfl rfl (by simp) (by omega) (by omega) (Nat.le_refl _) ?_
   refine l_assign rfl rfl rfl (l_nil ?_)
   have hw5 := St.frontL (l := [_, _, _, _, _, _, _, _, _]) hw4
   simp only [List.cons_append, List.nil_append] at hw5
   try clear hw4
   have hw6 := St.frontL (l := [_, _, _, _, _, _, _, _, _]) hw5
   simp only [List.cons_append, List.nil_append] at hw6
   try clear hw5
   have hw7 := St.frontL (l := [_, _, _, _, _]) hw6
   simp only [List.cons_append, List.nil_append] at hw7
   try clear hw6
   have hw8 := St.frontL (l := [_, _, _, _, _]) hw7
   simp only [List.cons_append, List.nil_append] at hw8
   try clear hw7
   have hw9 := St.frontL (l := [_, _, _, _, _]) hw8
   simp only [List.cons_append, List.nil_append] at hw9
   try clear hw8
   have hw10 := St.frontL (l := [_, _, _, _, _]) hw9
   simp only [List.cons_append, List.nil_append] at hw10
   try clear hw9
   have hw11 := St.frontL (l := [_, _, _, _, _, _, _, _, _]) hw10
   simp only [List.cons_append, List.nil_append] at hw11
   try clear hw10
   have hw12 := St.frontL (l := [_, _, _, _, _, _, _, _, _]) hw11
   simp only [List.cons_append, List.nil_append] at hw12
   try clear hw11
   have hw13 := St.frontL (l := [_, _, _, _, _, _, _, _, _]) hw12
   simp only [List.cons_append, List.nil_append] at hw13
   try clear hw12
   have hw14 := St.frontL (l := [_, _, _, _, _, _, _, _, _]) hw13
   simp only [List.cons_append, List.nil_append] at hw14
   try clear hw13
   refine e_meetk (.slice (cutA A1 0 c1 1) (400 - 0) (c1 - 0)) ?_ (.cons rfl (.cons rfl (.cons rfl (.cons rfl .nil)))) ?_
   ·exact ⟨hw14, hq1⟩
   ·exact (.cons rfl (by first | rfl | (refine congrArg (Value.int _) ?_; omega)) .nil)
  ·skip
   refine c_skip ?_
   have hw15 := St.frontL (l := [_, _, _, _, _, _, _, _, _]) hw4
   simp only [List.cons_append, List.nil_append] at hw15
   try clear hw4
   have hw16 := St.frontL (l := [_, _, _, _, _, _, _, _, _]) hw15
   simp only [List.cons_append, List.nil_append] at hw16
   try clear hw15
   have hw17 := St.frontL (l := [_, _, _, _, _]) hw16
   simp only [List.cons_append, List.nil_append] at hw17
   try clear hw16
   have hw18 := St.frontL (l := [_, _, _, _, _]) hw17
   simp only [List.cons_append, List.nil_append] at hw18
   try clear hw17
   have hw19 := St.frontL (l := [_, _, _, _, _]) hw18
   simp only [List.cons_append, List.nil_append] at hw19
   try clear hw18
   have hw20 := St.frontL (l := [_, _, _, _, _]) hw19
   simp only [List.cons_append, List.nil_append] at hw20
   try clear hw19
   have hw21 := St.frontL (l := [_, _, _, _, _, _, _, _, _]) hw20
   simp only [List.cons_append, List.nil_append] at hw21
   try clear hw20
   have hw22 := St.frontL (l := [_, _, _, _, _, _, _, _, _]) hw21
   simp only [List.cons_append, List.nil_append] at hw22
   try clear hw21
   have hw23 := St.frontL (l := [_, _, _, _, _, _, _, _, _]) hw22
   simp only [List.cons_append, List.nil_append] at hw23
   try clear hw22
   have hw24 := St.frontL (l := [_, _, _, _, _, _, _, _, _]) hw23
   simp only [List.cons_append, List.nil_append] at hw24
   try clear hw23
   refine e_meetk (v1) ?_ (.cons rfl (.cons rfl (.cons rfl (.cons rfl .nil)))) ?_
   ·exact ⟨hw24, by rw [List.take_of_length_le (by omega)]; exact hv1⟩
   ·exact (.cons rfl (by first | rfl | (refine congrArg (Value.int _) ?_; omega)) .nil)
 rintro q1 w25 ⟨hw25, hq1⟩
 show RunC P _ _ _ (_ :: _) _
 refine c_cutk (ι := Value) (fun (q2 : Value) (w' : World) => St w w.heap.size None' (gW gb gX ++ gW hb hX ++ [As.ro 23 vo (xs.map Prod.fst), As.sep (xs.map (fun p : Value × List Int => As.ri 3 .i64 p.1 p.2))]) w' ∧ IV w q2 (ints .i64 (l2.take 400))) (fun (q2 : Value) => [(2, q2)]) [0, 1, 7, 9] (.cons rfl (.cons rfl (.cons rfl (.cons rfl .nil)))) ?_ ?_
 ·skip
  refine c_seq (c_region ?_)
  simp only [gW, List.cons_append, List.nil_append] at hw25
  refine l_move rfl rfl rfl ?_
  refine v_leni rfl rfl Try.underlying23 rfl (by first | exact hw25.ibl mem0 | exact hw25.ik (by assumption) mem1 | exact hw25.io mem2 | exact hw25.ibl mem4 | exact hw25.ik (by assumption) mem5 | exact hw25.io mem6 | exact hw25.io mem8 | exact hw25.iarg hv | exact hw25.iarg hv1 | exact hw25.iarg hv2 | assumption) ?_
  refine l_gtr rfl rfl rfl rfl ?_
  refine l_nil (e_then ?_)
  refine c_keep [0, 1, 2, 7, 9, 52] (.cons rfl (.cons rfl (.cons rfl (.cons rfl (.cons rfl (.cons rfl .nil)))))) ?_
  first | refine c_cond rfl (fun hc2 => ?_) (fun hc2 => ?_) | refine c_condb rfl (fun hc2 => ?_) (fun hc2 => ?_)
  ·skip
   refine c_region (l_move rfl rfl rfl ?_)
   obtain ⟨A2, c2, hv2, hc2, hq2⟩ := iv_cutE (n := 400) hv2 (by omega)
   refine l_slice (size := 1) (l := 0) (h := 400) (mm := c2) rfl rfl Try.underlying23 tz3 (by show some v2 = _; rw [hv2]) rfl rfl rfl rfl rfl rfl (by simp) (by omega) (by omega) (Nat.le_refl _) ?_
   refine l_assign rfl rfl rfl (l_nil ?_)
   have hw26 := St.frontL (l := [_, _, _, _, _, _, _, _, _]) hw25
   simp only [List.cons_append, List.nil_append] at hw26
   try clear hw25
   have hw27 := St.frontL (l := [_, _, _, _, _, _, _, _, _]) hw26
   simp only [List.cons_append, List.nil_append] at hw27
   try clear hw26
   have hw28 := St.frontL (l := [_, _, _, _, _, _, _, _, _]) hw27
   simp only [List.cons_append, List.nil_append] at hw28
   try clear hw27
   have hw29 := St.frontL (l := [_, _, _, _, _, _, _, _, _]) hw28
   simp only [List.cons_append, List.nil_append] at hw29
   try clear hw28
   have hw30 := St.frontL (l := [_, _, _, _, _, _, _, _, _]) hw29
   simp only [List.cons_append, List.nil_append] at hw30
   try clear hw29
   have hw31 := St.frontL (l := [_, _, _, _, _, _, _, _, _]) hw30
   simp only [List.cons_append, List.nil_append] at hw31
   try clear hw30
   have hw32 := St.frontL (l := [_, _, _, _, _, _, _, _, _]) hw31
   simp only [List.cons_append, List.nil_append] at hw32
   try clear hw31
   have hw33 := St.frontL (l := [_, _, _, _, _, _, _, _, _]) hw32
   simp only [List.cons_append, List.nil_append] at hw33
   try clear hw32
   have hw34 := St.frontL (l := [_, _, _, _, _, _, _, _, _]) hw33
   simp only [List.cons_append, List.nil_append] at hw34
   try clear hw33
   have hw35 := St.frontL (l := [_, _, _, _, _, _, _, _, _]) hw34
   simp only [List.cons_append, List.nil_append] at hw35
   try clear hw34
   refine e_meetk (.slice (cutA A2 0 c2 1) (400 - 0) (c2 - 0)) ?_ (.cons rfl (.cons rfl (.cons rfl (.cons rfl .nil)))) ?_
   ·exact ⟨hw35, hq2⟩
   ·exact (.cons rfl (by first | rfl | (refine congrArg (Value.int _) ?_; omega)) .nil)
  ·skip
   refine c_skip ?_
   have hw36 := St.frontL (l := [_, _, _, _, _, _, _, _, _]) hw25
   simp only [List.cons_append, List.nil_append] at hw36
   try clear hw25
   have hw37 := St.frontL (l := [_, _, _, _, _, _, _, _, _]) hw36
   simp only [List.cons_append, List.nil_append] at hw37
   try clear hw36
   have hw38 := St.frontL (l := [_, _, _, _, _, _, _, _, _]) hw37
   simp only [List.cons_append, List.nil_append] at hw38
   try clear hw37
   have hw39 := St.frontL (l := [_, _, _, _, _, _, _, _, _]) hw38
   simp only [List.cons_append, List.nil_append] at hw39
   try clear hw38
   have hw40 := St.frontL (l := [_, _, _, _, _, _, _, _, _]) hw39
   simp only [List.cons_append, List.nil_append] at hw40
   try clear hw39
   have hw41 := St.frontL (l := [_, _, _, _, _, _, _, _, _]) hw40
   simp only [List.cons_append, List.nil_append] at hw41
   try clear hw40
   have hw42 := St.frontL (l := [_, _, _, _, _, _, _, _, _]) hw41
   simp only [List.cons_append, List.nil_append] at hw42
   try clear hw41
   have hw43 := St.frontL (l := [_, _, _, _, _, _, _, _, _]) hw42
   simp only [List.cons_append, List.nil_append] at hw43
   try clear hw42
   have hw44 := St.frontL (l := [_, _, _, _, _, _, _, _, _]) hw43
   simp only [List.cons_append, List.nil_append] at hw44
   try clear hw43
   have hw45 := St.frontL (l := [_, _, _, _, _, _, _, _, _]) hw44
   simp only [List.cons_append, List.nil_append] at hw45
   try clear hw44
   refine e_meetk (v2) ?_ (.cons rfl (.cons rfl (.cons rfl (.cons rfl .nil)))) ?_
   ·exact ⟨hw45, by rw [List.take_of_length_le (by omega)]; exact hv2⟩
   ·exact (.cons rfl (by first | rfl | (refine congrArg (Value.int _) ?_; omega)) .nil)
 rintro q2 w46 ⟨hw46, hq2⟩
 show RunC P _ _ _ (_ :: _) _
 refine c_seq (c_region ?_)
 simp only [gW, List.cons_append, List.nil_append] at hw46
 refine l_move rfl rfl rfl (l_move rfl rfl rfl ?_)
 have hw47 := St.frontL (l := [_, _, _]) hw46
 simp only [List.cons_append, List.nil_append] at hw47
 try clear hw46
 have hw48 := St.frontL (l := [_, _, _]) hw47
 simp only [List.cons_append, List.nil_append] at hw48
 try clear hw47
 have hw49 := St.frontL (l := [_, _, _]) hw48
 simp only [List.cons_append, List.nil_append] at hw49
 try clear hw48
 have hw50 := St.frontL (l := [_, _, _]) hw49
 simp only [List.cons_append, List.nil_append] at hw50
 try clear hw49
 refine l_call rfl rfl Try.func12 rfl rfl (.cons rfl (.cons rfl .nil)) (PlayG gb gX hIg.wf q1 (l1.take 400) (fun x hx => hrl1 x (List.mem_of_mem_take hx)) (by simp; omega) w46 (St.rows (τ := gW gb gX) hw50) (argG (τ := gW gb gX) hw50 hq1)) ?_
 rintro _ w51 ⟨kg, gY, rfl, hPg, hQg, hX2⟩
 have hw51 := hX2 _ _ _ _ hw50
 simp only [gW, List.cons_append, List.nil_append] at hw51
 try clear hX hw50
 have hIg2 := hIg.play hPg
 refine l_nil (e_then ?_)
 refine c_keep [0, 2, 7, 9] (.cons rfl (.cons rfl (.cons rfl (.cons rfl .nil)))) ?_
 refine c_seq (c_region (l_move rfl rfl rfl (l_move rfl rfl rfl ?_)))
 have hw52 := St.frontL (l := [_, _, _, _, _, _, _]) hw51
 simp only [List.cons_append, List.nil_append] at hw52
 try clear hw51
 have hw53 := St.frontL (l := [_, _, _, _, _, _, _]) hw52
 simp only [List.cons_append, List.nil_append] at hw53
 try clear hw52
 have hw54 := St.frontL (l := [_, _, _, _, _, _, _]) hw53
 simp only [List.cons_append, List.nil_append] at hw54
 try clear hw53
 have hw55 := St.frontL (l := [_, _, _, _, _, _, _]) hw54
 simp only [List.cons_append, List.nil_append] at hw55
 try clear hw54
 refine l_call rfl rfl Try.func12 rfl rfl (.cons rfl (.cons rfl .nil)) (PlayG hb hX hIh.wf q2 (l2.take 400) (fun x hx => hrl2 x (List.mem_of_mem_take hx)) (by simp; omega) w51 (St.rows (τ := gW hb hX) hw55) (argG (τ := gW hb hX) hw55 hq2)) ?_
 rintro _ w56 ⟨kh, hY, rfl, hPh, hQh, hX2⟩
 have hw56 := hX2 _ _ _ _ hw55
 simp only [gW, List.cons_append, List.nil_append] at hw56
 try clear hX hw55
 have hIh2 := hIh.play hPh
 refine l_nil (e_then ?_)
 refine c_keep [0, 7, 9] (.cons rfl (.cons rfl (.cons rfl .nil))) ?_
 refine c_seq (c_region (l_move rfl rfl rfl ?_))
 have hw57 := St.frontL (l := [_, _, _, _, _, _, _]) hw56
 simp only [List.cons_append, List.nil_append] at hw57
 try clear hw56
 have hw58 := St.frontL (l := [_, _, _, _, _, _, _]) hw57
 simp only [List.cons_append, List.nil_append] at hw58
 try clear hw57
 have hw59 := St.frontL (l := [_, _, _, _, _, _, _]) hw58
 simp only [List.cons_append, List.nil_append] at hw59
 try clear hw58
 have hw60 := St.frontL (l := [_, _, _, _, _, _, _]) hw59
 simp only [List.cons_append, List.nil_append] at hw60
 try clear hw59
 refine l_call rfl rfl Try.func13 rfl rfl (.cons rfl .nil) (RestG gb gY hIg2.wf w56 (St.rows (τ := gW gb gY) hw60)) ?_
 rintro _ w61 ⟨jg, gZ, rfl, hNg, hEg, hX2⟩
 have hw61 := hX2 _ _ _ _ hw60
 simp only [gW, List.cons_append, List.nil_append] at hw61
 try clear hX hw60
 have hIg3 := hIg2.next hNg
 have hmg := next_nil hIg3.fr hEg
 refine l_nil (e_then ?_)
 refine c_keep [0, 7, 9] (.cons rfl (.cons rfl (.cons rfl .nil))) ?_
 refine c_seq (c_region (l_move rfl rfl rfl ?_))
 have hw62 := St.frontL (l := [_, _, _, _, _, _, _]) hw61
 simp only [List.cons_append, List.nil_append] at hw62
 try clear hw61
 have hw63 := St.frontL (l := [_, _, _, _, _, _, _]) hw62
 simp only [List.cons_append, List.nil_append] at hw63
 try clear hw62
 have hw64 := St.frontL (l := [_, _, _, _, _, _, _]) hw63
 simp only [List.cons_append, List.nil_append] at hw64
 try clear hw63
 have hw65 := St.frontL (l := [_, _, _, _, _, _, _]) hw64
 simp only [List.cons_append, List.nil_append] at hw65
 try clear hw64
 refine l_call rfl rfl Try.func13 rfl rfl (.cons rfl .nil) (RestG hb hY hIh2.wf w61 (St.rows (τ := gW hb hY) hw65)) ?_
 rintro _ w66 ⟨jh, hZ, rfl, hNh, hEh, hX2⟩
 have hw66 := hX2 _ _ _ _ hw65
 simp only [gW, List.cons_append, List.nil_append] at hw66
 try clear hX hw65
 have hIh3 := hIh2.next hNh
 have hmh := next_nil hIh3.fr hEh
 refine l_nil (e_then ?_)
 refine c_keep [0, 7, 9] (.cons rfl (.cons rfl (.cons rfl .nil))) ?_
 refine c_seq (c_seq (c_region ?_))
 have hw67 := St.frontL (l := [_, _, _, _, _, _, _, _, _]) hw66
 simp only [List.cons_append, List.nil_append] at hw67
 try clear hw66
 have hw68 := St.frontL (l := [_, _, _, _, _, _, _, _, _]) hw67
 simp only [List.cons_append, List.nil_append] at hw68
 try clear hw67
 have hw69 := St.frontL (l := [_, _, _, _, _]) hw68
 simp only [List.cons_append, List.nil_append] at hw69
 try clear hw68
 have hw70 := St.frontL (l := [_, _, _, _, _]) hw69
 simp only [List.cons_append, List.nil_append] at hw70
 try clear hw69
 have hw71 := St.frontL (l := [_, _, _, _, _]) hw70
 simp only [List.cons_append, List.nil_append] at hw71
 try clear hw70
 have hw72 := St.frontL (l := [_, _, _, _, _]) hw71
 simp only [List.cons_append, List.nil_append] at hw72
 try clear hw71
 have hw73 := St.frontL (l := [_, _, _, _, _, _, _, _, _]) hw72
 simp only [List.cons_append, List.nil_append] at hw73
 try clear hw72
 have hw74 := St.frontL (l := [_, _, _, _, _, _, _, _, _]) hw73
 simp only [List.cons_append, List.nil_append] at hw74
 try clear hw73
 have hw75 := St.frontL (l := [_, _, _, _, _, _, _, _, _]) hw74
 simp only [List.cons_append, List.nil_append] at hw75
 try clear hw74
 have hw76 := St.frontL (l := [_, _, _, _, _, _, _, _, _]) hw75
 simp only [List.cons_append, List.nil_append] at hw76
 try clear hw75
 refine l_assign rfl rfl rfl (l_nil (e_then (c_block ?_)))
 refine c_loopk (ι := Nat) (fun (i : Nat) => (xs.map Prod.fst).length - i) (fun (i : Nat) (w' : World) => St w w.heap.size None' (gW gb gZ ++ gW hb hZ ++ [As.ro 23 vo (xs.map Prod.fst), As.sep (xs.map (fun p : Value × List Int => As.ri 3 .i64 p.1 p.2))]) w' ∧ i ≤ (xs.map Prod.fst).length) (fun (i : Nat) => [(11, .int .i64 (i : Int))]) [0, 7, 9] (0) ?_ (.cons rfl (.cons rfl (.cons rfl .nil))) ?_ ?_
 ·exact ⟨hw76, by omega⟩
 ·exact (.cons rfl (by first | rfl | (refine congrArg (Value.int _) ?_; omega)) .nil)
 rintro i w77 ⟨hw77, hi⟩
 show RunC P _ _ _ (_ :: _) _
 simp only [gW, List.cons_append, List.nil_append] at hw77
 refine c_seq (c_seq (c_region (l_move rfl rfl rfl (l_move rfl rfl rfl ?_))))
 refine v_len rfl rfl Try.underlying22 rfl (by first | exact hw77.ibl mem0 | exact hw77.ik (by assumption) mem1 | exact hw77.io mem2 | exact hw77.ibl mem4 | exact hw77.ik (by assumption) mem5 | exact hw77.io mem6 | exact hw77.io mem8 | exact hw77.iarg hv | exact hw77.iarg hv1 | exact hw77.iarg hv2 | assumption) ?_
 refine l_lss rfl rfl rfl rfl ?_
 refine l_nil (e_then ?_)
 refine c_keep [0, 7, 9, 11, 68] (.cons rfl (.cons rfl (.cons rfl (.cons rfl (.cons rfl .nil))))) ?_
 first | refine c_cond rfl (fun hc3 => ?_) (fun hc3 => ?_) | refine c_condb rfl (fun hc3 => ?_) (fun hc3 => ?_)
 ·skip
  refine c_skip (e_then ?_)
  refine c_keep [0, 7, 9, 11] (.cons rfl (.cons rfl (.cons rfl (.cons rfl .nil)))) ?_
  refine c_seq (c_block (c_seq ?_))
  have hw78 := hw77.drewn
  try clear hw77
  have hi1 : i < (asksF ls).length := by have := xs_len hxs; omega
  obtain ⟨x, hxi⟩ : ∃ x, (xs.map Prod.fst)[i]? = some x := ⟨_, List.getElem?_eq_getElem (by have := xs_len hxs; omega)⟩
  obtain ⟨l, hli⟩ : ∃ l, (asksF ls)[i]? = some l := ⟨_, List.getElem?_eq_getElem hi1⟩
  obtain ⟨Ax, cx, hxe, _, _⟩ := xs_iv (hw78.ok mem9) hxs i x l hxi hli
  rw [List.length_map] at hxe
  have hlok := (asksF_ok ls).2 l (List.mem_of_getElem? hli)
  have hl64 := hlok.1
  have hrg9 := hIg3.read hmg hli
  have hrh9 := hIh3.read hmh hli
  obtain ⟨A17, c17, hv17⟩ := (hw78.io mem8).lies (by rw [xs_len hxs]; omega)
  refine c_any (n := 20) [false, false, false, false, false, false, false, false, false, false, false, false, false, false, false, false, false, false, false, false] (fun wS => IV wS vo (xs.map Prod.fst)) (by kernel_rfl) rfl rfl ?_
  apply a_take (L' := [true, false, false, false, false, false, false, false, false, false, false, false, false, false, false, false, false, false, false, false]) 0 rfl (by kernel_rfl) (by kernel_rfl) (by kernel_rfl) rfl rfl rfl rfl rfl (hw78.io mem8)
  ·intro wS sS
   refine l_move rfl rfl rfl (l_nil ?_)
   exact e_got rfl
  apply a_take (L' := [true, true, false, false, false, false, false, false, false, false, false, false, false, false, false, false, false, false, false, false]) 1 rfl (by kernel_rfl) (by kernel_rfl) (by kernel_rfl) rfl rfl rfl rfl rfl (hw78.io mem8)
  ·intro wS sS
   refine l_move rfl rfl rfl (l_nil ?_)
   exact e_got rfl
  apply a_take (L' := [true, true, false, true, false, false, false, false, false, false, false, false, false, false, false, false, false, false, false, false]) 3 rfl (by kernel_rfl) (by kernel_rfl) (by kernel_rfl) rfl rfl rfl rfl rfl (hw78.io mem8)
  ·intro wS sS
   refine l_move rfl rfl rfl (l_nil ?_)
   exact e_got rfl
  apply a_take (L' := [true, true, false, true, true, false, false, false, false, false, false, false, false, false, false, false, false, false, false, false]) 4 rfl (by kernel_rfl) (by kernel_rfl) (by kernel_rfl) rfl rfl rfl rfl rfl (hw78.io mem8)
  ·intro wS sS
   refine l_move rfl rfl rfl (l_nil ?_)
   exact e_got rfl
  refine a_one (L' := [true, true, true, true, true, false, false, false, false, false, false, false, false, false, false, false, false, false, false, false]) 2 (by kernel_rfl) rfl rfl ?_
  have hw79 := St.frontL (l := [_, _, _]) hw78
  simp only [List.cons_append, List.nil_append] at hw79
  try clear hw78
  have hw80 := St.frontL (l := [_, _, _]) hw79
  simp only [List.cons_append, List.nil_append] at hw80
  try clear hw79
  have hw81 := St.frontL (l := [_, _, _]) hw80
  simp only [List.cons_append, List.nil_append] at hw81
  try clear hw80
  have hw82 := St.frontL (l := [_, _, _]) hw81
  simp only [List.cons_append, List.nil_append] at hw82
  try clear hw81
  refine l_call rfl rfl Try.func15 rfl rfl (.cons rfl (.cons rfl .nil)) (ReadG gb gZ hIg3.wf (i : Int) w77.drew (GF.of (σ := _) (b := gb) (X := gZ) hw82)) ?_
  rintro ra w83 ⟨_, rfl, hG⟩
  have hw83 := hG _ _ _ _ hw82
  try clear hG hw82
  simp only [List.cons_append, List.nil_append] at hw83
  refine l_nil ?_
  refine e_any (hw83.io mem9) ?_
  refine a_one (L' := [true, true, true, true, true, true, false, false, false, false, false, false, false, false, false, false, false, false, false, false]) 5 (by kernel_rfl) rfl rfl ?_
  have hw84 := St.frontL (l := [_, _, _, _, _, _, _, _]) hw83
  simp only [List.cons_append, List.nil_append] at hw84
  try clear hw83
  have hw85 := St.frontL (l := [_, _, _, _, _, _, _, _]) hw84
  simp only [List.cons_append, List.nil_append] at hw85
  try clear hw84
  have hw86 := St.frontL (l := [_, _, _, _, _, _, _, _]) hw85
  simp only [List.cons_append, List.nil_append] at hw86
  try clear hw85
  have hw87 := St.frontL (l := [_, _, _, _, _, _, _, _]) hw86
  simp only [List.cons_append, List.nil_append] at hw87
  try clear hw86
  refine l_call rfl rfl Try.func15 rfl rfl (.cons rfl (.cons rfl .nil)) (ReadG hb hZ hIh3.wf (i : Int) w83 (GF.of (σ := _) (b := hb) (X := hZ) hw87)) ?_
  rintro rb w88 ⟨_, rfl, hG⟩
  have hw88 := hG _ _ _ _ hw87
  try clear hG hw87
  simp only [List.cons_append, List.nil_append] at hw88
  refine l_nil ?_
  refine e_any (hw88.io mem10) ?_
  refine a_one (L' := [true, true, true, true, true, true, true, false, false, false, false, false, false, false, false, false, false, false, false, false]) 6 (by kernel_rfl) rfl rfl ?_
  refine l_call rfl rfl Try.func14 rfl rfl (.cons rfl (.cons rfl .nil)) (widesL ra rb l (by omega) w88 (by rw [← hrg9]; exact Own.ik (readF_rows _ _) (hw88.ok mem5)) (by rw [← hrh9]; exact Own.ik (readF_rows _ _) (hw88.ok mem0))) ?_
  rintro _ w89 ⟨rfl, hG⟩
  have hw89 := hG _ _ _ _ hw88
  try clear hG hw88
  simp only [List.cons_append, List.nil_append] at hw89
  refine l_nil ?_
  refine e_any (hw89.io mem10) ?_
  apply a_take (L' := [true, true, true, true, true, true, true, true, false, false, false, false, false, false, false, false, false, false, false, false]) 7 rfl (by kernel_rfl) (by kernel_rfl) (by kernel_rfl) rfl rfl rfl rfl rfl (hw89.io mem10)
  ·intro wS sS
   first | refine l_notd rfl rfl rfl ?_ | refine l_not rfl rfl rfl ?_
   refine l_turn (s := 78) (v' := .bool false) rfl (by rfl) ?_
   refine l_nil ?_
   exact e_got rfl
  apply a_take (L' := [true, true, true, true, true, true, true, true, true, false, false, false, false, false, false, false, false, false, false, false]) 8 rfl (by kernel_rfl) (by kernel_rfl) (by kernel_rfl) rfl rfl rfl rfl rfl (hw89.io mem10)
  ·intro wS sS
   refine l_move rfl rfl rfl (l_nil ?_)
   exact e_got rfl
  apply a_take (L' := [true, true, true, true, true, true, true, true, true, true, false, false, false, false, false, false, false, false, false, false]) 9 rfl (by kernel_rfl) (by kernel_rfl) (by kernel_rfl) rfl rfl rfl rfl rfl (hw89.io mem10)
  ·intro wS sS
   refine l_move rfl rfl rfl (l_nil ?_)
   exact e_got rfl
  apply a_take (L' := [true, true, true, true, true, true, true, true, true, true, true, false, false, false, false, false, false, false, false, false]) 10 rfl (by kernel_rfl) (by kernel_rfl) (by kernel_rfl) rfl rfl rfl rfl rfl (hw89.io mem10)
  ·intro wS sS
   refine l_move rfl rfl rfl (l_nil ?_)
   exact e_got rfl
  apply a_take (L' := [true, true, true, true, true, true, true, true, true, true, true, false, false, true, false, false, false, false, false, false]) 13 rfl (by kernel_rfl) (by kernel_rfl) (by kernel_rfl) rfl rfl rfl rfl rfl (hw89.io mem10)
  ·intro wS sS
   refine l_move rfl rfl rfl (l_nil ?_)
   exact e_got rfl
  apply a_take (L' := [true, true, true, true, true, true, true, true, true, true, true, false, false, true, true, false, false, false, false, false]) 14 rfl (by kernel_rfl) (by kernel_rfl) (by kernel_rfl) rfl rfl rfl rfl rfl (hw89.io mem10)
  ·intro wS sS
   refine l_move rfl rfl rfl (l_nil ?_)
   exact e_got rfl
  apply a_take (L' := [true, true, true, true, true, true, true, true, true, true, true, false, false, true, true, true, false, false, false, false]) 15 rfl (by kernel_rfl) (by kernel_rfl) (by kernel_rfl) rfl rfl rfl rfl rfl (hw89.io mem10)
  ·intro wS sS
   refine v_addrx (j := i) rfl rfl Try.underlying22 tz23 rfl rfl hv17 (by first | rfl | omega) (by first | omega | (simp; done) | (simp; omega)) ?_
   refine l_nil ?_
   exact e_got rfl
  apply a_take (L' := [true, true, true, true, true, true, true, true, true, true, true, false, false, true, true, true, true, false, false, false]) 16 rfl (by kernel_rfl) (by kernel_rfl) (by kernel_rfl) rfl rfl rfl rfl rfl (hw89.io mem10)
  ·intro wS sS
   refine l_load rfl rfl Try.underlying23 rfl rfl (sl_of hv17 sS) hxi ?_
   refine l_nil ?_
   exact e_got rfl
  refine a_two (L' := [true, true, true, true, true, true, true, true, true, true, true, true, false, true, true, true, true, false, false, false]) (L'' := [true, true, true, true, true, true, true, true, true, true, true, false, false, true, true, true, true, true, false, false]) 11 17 (by kernel_rfl) rfl rfl rfl rfl ?_ ?_
  ·skip
   have hw90 := St.frontL (l := [_, _, _, _, _, _, _, _, _]) hw89
   simp only [List.cons_append, List.nil_append] at hw90
   try clear hw89
   have hw91 := St.frontL (l := [_, _, _, _, _, _, _, _, _]) hw90
   simp only [List.cons_append, List.nil_append] at hw91
   try clear hw90
   have hw92 := St.frontL (l := [_, _, _, _, _, _, _, _, _]) hw91
   simp only [List.cons_append, List.nil_append] at hw92
   try clear hw91
   have hw93 := St.frontL (l := [_, _, _, _, _, _, _, _, _]) hw92
   simp only [List.cons_append, List.nil_append] at hw93
   try clear hw92
   refine l_call rfl rfl Try.func15 rfl rfl (.cons rfl (.cons rfl .nil)) (ReadG gb gZ hIg3.wf (i : Int) w89 (GF.of (σ := _) (b := gb) (X := gZ) hw93)) ?_
   rintro rc w94 ⟨_, rfl, hG⟩
   have hw94 := hG _ _ _ _ hw93
   try clear hG hw93
   simp only [List.cons_append, List.nil_append] at hw94
   refine l_nil ?_
   refine e_any (hw94.io mem11) ?_
   refine a_two (L' := [true, true, true, true, true, true, true, true, true, true, true, true, true, true, true, true, true, false, false, false]) (L'' := [true, true, true, true, true, true, true, true, true, true, true, true, false, true, true, true, true, true, false, false]) 12 17 (by kernel_rfl) rfl rfl rfl rfl ?_ ?_
   ·skip
    refine k_len rfl rfl Try.underlying34 rfl (Own.ik (readF_rows _ _) (hw94.ok mem0)) ?_
    refine l_nil ?_
    refine e_any (hw94.io mem11) ?_
    refine a_one (L' := [true, true, true, true, true, true, true, true, true, true, true, true, true, true, true, true, true, true, false, false]) 17 (by kernel_rfl) rfl rfl ?_
    refine l_len rfl rfl Try.underlying23 (by show some x = _; rw [hxe]) ?_
    refine l_nil ?_
    refine e_any (hw94.io mem11) ?_
    apply a_take (L' := [true, true, true, true, true, true, true, true, true, true, true, true, true, true, true, true, true, true, true, false]) 18 rfl (by kernel_rfl) (by kernel_rfl) (by kernel_rfl) rfl rfl rfl rfl rfl (hw94.io mem11)
    ·intro wS sS
     refine l_neq rfl rfl rfl rfl ?_
     refine l_turn (s := 89) (v' := .bool false) rfl (by rw [hrg9]; simp [readA]) ?_
     refine l_nil ?_
     exact e_got rfl
    apply a_take (L' := [true, true, true, true, true, true, true, true, true, true, true, true, true, true, true, true, true, true, true, true]) 19 rfl (by kernel_rfl) (by kernel_rfl) (by kernel_rfl) rfl rfl rfl rfl rfl (hw94.io mem11)
    ·intro wS sS
     refine l_pick_f rfl rfl rfl rfl ?_
     refine l_nil ?_
     exact e_got rfl
    refine a_done (by kernel_rfl) ?_
    refine e_then ?_
    refine c_keep [0, 7, 9, 11, 90] (.cons rfl (.cons rfl (.cons rfl (.cons rfl (.cons rfl .nil))))) ?_
    refine c_cond_f rfl rfl ?_
    refine c_skip ?_
    refine e_blk ?_
    refine e_then ?_
    refine c_keep [0, 7, 9, 11] (.cons rfl (.cons rfl (.cons rfl (.cons rfl .nil)))) ?_
    refine c_region ?_
    have hw95 := St.frontL (l := [_, _, _, _, _, _, _, _, _, _, _, _]) hw94
    simp only [List.cons_append, List.nil_append] at hw95
    try clear hw94
    have hw96 := St.frontL (l := [_, _, _, _, _, _, _, _, _, _, _, _]) hw95
    simp only [List.cons_append, List.nil_append] at hw96
    try clear hw95
    have hw97 := St.frontL (l := [_, _, _, _, _, _, _, _, _, _, _]) hw96
    simp only [List.cons_append, List.nil_append] at hw97
    try clear hw96
    have hw98 := St.frontL (l := [_, _, _, _, _, _, _, _, _, _, _]) hw97
    simp only [List.cons_append, List.nil_append] at hw98
    try clear hw97
    have hw99 := St.frontL (l := [_, _, _, _, _, _, _, _, _, _, _]) hw98
    simp only [List.cons_append, List.nil_append] at hw99
    try clear hw98
    have hw100 := St.frontL (l := [_, _, _, _, _, _, _, _, _, _, _]) hw99
    simp only [List.cons_append, List.nil_append] at hw100
    try clear hw99
    have hw101 := St.frontL (l := [_, _, _, _, _, _, _, _, _, _]) hw100
    simp only [List.cons_append, List.nil_append] at hw101
    try clear hw100
    have hw102 := St.frontL (l := [_, _, _, _, _, _, _, _, _, _]) hw101
    simp only [List.cons_append, List.nil_append] at hw102
    try clear hw101
    have hw103 := St.frontL (l := [_, _, _, _, _, _, _, _, _, _]) hw102
    simp only [List.cons_append, List.nil_append] at hw103
    try clear hw102
    have hw104 := St.frontL (l := [_, _, _, _, _, _, _, _, _, _]) hw103
    simp only [List.cons_append, List.nil_append] at hw104
    try clear hw103
    refine l_move rfl rfl rfl ?_
    refine l_add rfl rfl rfl rfl (w_i64 (by omega)) ?_
    refine l_assign rfl rfl rfl (l_nil ?_)
    have hw105 := St.del (.tail (.tail (.tail (.tail (.tail (.tail (.tail (.tail (.tail (.tail (.tail (.tail .head)))))))))))) hw104
    try clear hw104
    have hw106 := St.del (.tail (.tail (.tail (.tail (.tail (.tail (.tail (.tail (.tail (.tail (.tail .head))))))))))) hw105
    try clear hw105
    have hw107 := St.del (.tail (.tail (.tail (.tail (.tail (.tail (.tail (.tail (.tail (.tail .head)))))))))) hw106
    try clear hw106
    refine e_againk (i := (i)) (i + 1) ?_ ?_ (.cons rfl (.cons rfl (.cons rfl .nil))) ?_
    ·first | omega | (simp; omega)
    ·exact ⟨hw107, by omega⟩
    ·exact (.cons rfl (by first | rfl | (refine congrArg (Value.int _) ?_; omega)) .nil)
   ·skip
    refine l_len rfl rfl Try.underlying23 (by show some x = _; rw [hxe]) ?_
    refine l_nil ?_
    refine e_any (hw94.io mem11) ?_
    refine a_one (L' := [true, true, true, true, true, true, true, true, true, true, true, true, true, true, true, true, true, true, false, false]) 12 (by kernel_rfl) rfl rfl ?_
    refine k_len rfl rfl Try.underlying34 rfl (Own.ik (readF_rows _ _) (hw94.ok mem0)) ?_
    refine l_nil ?_
    refine e_any (hw94.io mem11) ?_
    apply a_take (L' := [true, true, true, true, true, true, true, true, true, true, true, true, true, true, true, true, true, true, true, false]) 18 rfl (by kernel_rfl) (by kernel_rfl) (by kernel_rfl) rfl rfl rfl rfl rfl (hw94.io mem11)
    ·intro wS sS
     refine l_neq rfl rfl rfl rfl ?_
     refine l_turn (s := 89) (v' := .bool false) rfl (by rw [hrg9]; simp [readA]) ?_
     refine l_nil ?_
     exact e_got rfl
    apply a_take (L' := [true, true, true, true, true, true, true, true, true, true, true, true, true, true, true, true, true, true, true, true]) 19 rfl (by kernel_rfl) (by kernel_rfl) (by kernel_rfl) rfl rfl rfl rfl rfl (hw94.io mem11)
    ·intro wS sS
     refine l_pick_f rfl rfl rfl rfl ?_
     refine l_nil ?_
     exact e_got rfl
    refine a_done (by kernel_rfl) ?_
    refine e_then ?_
    refine c_keep [0, 7, 9, 11, 90] (.cons rfl (.cons rfl (.cons rfl (.cons rfl (.cons rfl .nil))))) ?_
    refine c_cond_f rfl rfl ?_
    refine c_skip ?_
    refine e_blk ?_
    refine e_then ?_
    refine c_keep [0, 7, 9, 11] (.cons rfl (.cons rfl (.cons rfl (.cons rfl .nil)))) ?_
    refine c_region ?_
    have hw108 := St.frontL (l := [_, _, _, _, _, _, _, _, _, _, _, _]) hw94
    simp only [List.cons_append, List.nil_append] at hw108
    try clear hw94
    have hw109 := St.frontL (l := [_, _, _, _, _, _, _, _, _, _, _, _]) hw108
    simp only [List.cons_append, List.nil_append] at hw109
    try clear hw108
    have hw110 := St.frontL (l := [_, _, _, _, _, _, _, _, _, _, _]) hw109
    simp only [List.cons_append, List.nil_append] at hw110
    try clear hw109
    have hw111 := St.frontL (l := [_, _, _, _, _, _, _, _, _, _, _]) hw110
    simp only [List.cons_append, List.nil_append] at hw111
    try clear hw110
    have hw112 := St.frontL (l := [_, _, _, _, _, _, _, _, _, _, _]) hw111
    simp only [List.cons_append, List.nil_append] at hw112
    try clear hw111
    have hw113 := St.frontL (l := [_, _, _, _, _, _, _, _, _, _, _]) hw112
    simp only [List.cons_append, List.nil_append] at hw113
    try clear hw112
    have hw114 := St.frontL (l := [_, _, _, _, _, _, _, _, _, _]) hw113
    simp only [List.cons_append, List.nil_append] at hw114
    try clear hw113
    have hw115 := St.frontL (l := [_, _, _, _, _, _, _, _, _, _]) hw114
    simp only [List.cons_append, List.nil_append] at hw115
    try clear hw114
    have hw116 := St.frontL (l := [_, _, _, _, _, _, _, _, _, _]) hw115
    simp only [List.cons_append, List.nil_append] at hw116
    try clear hw115
    have hw117 := St.frontL (l := [_, _, _, _, _, _, _, _, _, _]) hw116
    simp only [List.cons_append, List.nil_append] at hw117
    try clear hw116
    refine l_move rfl rfl rfl ?_
    refine l_add rfl rfl rfl rfl (w_i64 (by omega)) ?_
    refine l_assign rfl rfl rfl (l_nil ?_)
    have hw118 := St.del (.tail (.tail (.tail (.tail (.tail (.tail (.tail (.tail (.tail (.tail (.tail (.tail .head)))))))))))) hw117
    try clear hw117
    have hw119 := St.del (.tail (.tail (.tail (.tail (.tail (.tail (.tail (.tail (.tail (.tail (.tail .head))))))))))) hw118
    try clear hw118
    have hw120 := St.del (.tail (.tail (.tail (.tail (.tail (.tail (.tail (.tail (.tail (.tail .head)))))))))) hw119
    try clear hw119
    refine e_againk (i := (i)) (i + 1) ?_ ?_ (.cons rfl (.cons rfl (.cons rfl .nil))) ?_
    ·first | omega | (simp; omega)
    ·exact ⟨hw120, by omega⟩
    ·exact (.cons rfl (by first | rfl | (refine congrArg (Value.int _) ?_; omega)) .nil)
  ·skip
   refine l_len rfl rfl Try.underlying23 (by show some x = _; rw [hxe]) ?_
   refine l_nil ?_
   refine e_any (hw89.io mem10) ?_
   refine a_one (L' := [true, true, true, true, true, true, true, true, true, true, true, true, false, true, true, true, true, true, false, false]) 11 (by kernel_rfl) rfl rfl ?_
   have hw121 := St.frontL (l := [_, _, _, _, _, _, _, _, _]) hw89
   simp only [List.cons_append, List.nil_append] at hw121
   try clear hw89
   have hw122 := St.frontL (l := [_, _, _, _, _, _, _, _, _]) hw121
   simp only [List.cons_append, List.nil_append] at hw122
   try clear hw121
   have hw123 := St.frontL (l := [_, _, _, _, _, _, _, _, _]) hw122
   simp only [List.cons_append, List.nil_append] at hw123
   try clear hw122
   have hw124 := St.frontL (l := [_, _, _, _, _, _, _, _, _]) hw123
   simp only [List.cons_append, List.nil_append] at hw124
   try clear hw123
   refine l_call rfl rfl Try.func15 rfl rfl (.cons rfl (.cons rfl .nil)) (ReadG gb gZ hIg3.wf (i : Int) w89 (GF.of (σ := _) (b := gb) (X := gZ) hw124)) ?_
   rintro rc w125 ⟨_, rfl, hG⟩
   have hw125 := hG _ _ _ _ hw124
   try clear hG hw124
   simp only [List.cons_append, List.nil_append] at hw125
   refine l_nil ?_
   refine e_any (hw125.io mem11) ?_
   refine a_one (L' := [true, true, true, true, true, true, true, true, true, true, true, true, true, true, true, true, true, true, false, false]) 12 (by kernel_rfl) rfl rfl ?_
   refine k_len rfl rfl Try.underlying34 rfl (Own.ik (readF_rows _ _) (hw125.ok mem0)) ?_
   refine l_nil ?_
   refine e_any (hw125.io mem11) ?_
   apply a_take (L' := [true, true, true, true, true, true, true, true, true, true, true, true, true, true, true, true, true, true, true, false]) 18 rfl (by kernel_rfl) (by kernel_rfl) (by kernel_rfl) rfl rfl rfl rfl rfl (hw125.io mem11)
   ·intro wS sS
    refine l_neq rfl rfl rfl rfl ?_
    refine l_turn (s := 89) (v' := .bool false) rfl (by rw [hrg9]; simp [readA]) ?_
    refine l_nil ?_
    exact e_got rfl
   apply a_take (L' := [true, true, true, true, true, true, true, true, true, true, true, true, true, true, true, true, true, true, true, true]) 19 rfl (by kernel_rfl) (by kernel_rfl) (by kernel_rfl) rfl rfl rfl rfl rfl (hw125.io mem11)
   ·intro wS sS
    refine l_pick_f rfl rfl rfl rfl ?_
    refine l_nil ?_
    exact e_got rfl
   refine a_done (by kernel_rfl) ?_
   refine e_then ?_
   refine c_keep [0, 7, 9, 11, 90] (.cons rfl (.cons rfl (.cons rfl (.cons rfl (.cons rfl .nil))))) ?_
   refine c_cond_f rfl rfl ?_
   refine c_skip ?_
   refine e_blk ?_
   refine e_then ?_
   refine c_keep [0, 7, 9, 11] (.cons rfl (.cons rfl (.cons rfl (.cons rfl .nil)))) ?_
   refine c_region ?_
   have hw126 := St.frontL (l := [_, _, _, _, _, _, _, _, _, _, _, _]) hw125
   simp only [List.cons_append, List.nil_append] at hw126
   try clear hw125
   have hw127 := St.frontL (l := [_, _, _, _, _, _, _, _, _, _, _, _]) hw126
   simp only [List.cons_append, List.nil_append] at hw127
   try clear hw126
   have hw128 := St.frontL (l := [_, _, _, _, _, _, _, _, _, _, _]) hw127
   simp only [List.cons_append, List.nil_append] at hw128
   try clear hw127
   have hw129 := St.frontL (l := [_, _, _, _, _, _, _, _, _, _, _]) hw128
   simp only [List.cons_append, List.nil_append] at hw129
   try clear hw128
   have hw130 := St.frontL (l := [_, _, _, _, _, _, _, _, _, _, _]) hw129
   simp only [List.cons_append, List.nil_append] at hw130
   try clear hw129
   have hw131 := St.frontL (l := [_, _, _, _, _, _, _, _, _, _, _]) hw130
   simp only [List.cons_append, List.nil_append] at hw131
   try clear hw130
   have hw132 := St.frontL (l := [_, _, _, _, _, _, _, _, _, _]) hw131
   simp only [List.cons_append, List.nil_append] at hw132
   try clear hw131
   have hw133 := St.frontL (l := [_, _, _, _, _, _, _, _, _, _]) hw132
   simp only [List.cons_append, List.nil_append] at hw133
   try clear hw132
   have hw134 := St.frontL (l := [_, _, _, _, _, _, _, _, _, _]) hw133
   simp only [List.cons_append, List.nil_append] at hw134
   try clear hw133
   have hw135 := St.frontL (l := [_, _, _, _, _, _, _, _, _, _]) hw134
   simp only [List.cons_append, List.nil_append] at hw135
   try clear hw134
   refine l_move rfl rfl rfl ?_
   refine l_add rfl rfl rfl rfl (w_i64 (by omega)) ?_
   refine l_assign rfl rfl rfl (l_nil ?_)
   have hw136 := St.del (.tail (.tail (.tail (.tail (.tail (.tail (.tail (.tail (.tail (.tail (.tail (.tail .head)))))))))))) hw135
   try clear hw135
   have hw137 := St.del (.tail (.tail (.tail (.tail (.tail (.tail (.tail (.tail (.tail (.tail (.tail .head))))))))))) hw136
   try clear hw136
   have hw138 := St.del (.tail (.tail (.tail (.tail (.tail (.tail (.tail (.tail (.tail (.tail .head)))))))))) hw137
   try clear hw137
   refine e_againk (i := (i)) (i + 1) ?_ ?_ (.cons rfl (.cons rfl (.cons rfl .nil))) ?_
   ·first | omega | (simp; omega)
   ·exact ⟨hw138, by omega⟩
   ·exact (.cons rfl (by first | rfl | (refine congrArg (Value.int _) ?_; omega)) .nil)
 ·skip
  refine c_exit ?_
  refine e_then_exit ?_
  refine e_then_exit ?_
  refine e_blk_exit ?_
  refine e_then ?_
  refine c_keep [7, 9] (.cons rfl (.cons rfl .nil)) ?_
  refine c_seq (c_seq (c_region (l_assign rfl rfl rfl (l_nil (e_then ?_)))))
  refine c_block ?_
  refine c_loopk (ι := Nat) (fun (s : Nat) => 41 - s) (fun (s : Nat) (w' : World) => St w w.heap.size None' (gW gb gZ ++ gW hb hZ ++ [As.ro 23 vo (xs.map Prod.fst), As.sep (xs.map (fun p : Value × List Int => As.ri 3 .i64 p.1 p.2))]) w' ∧ s ≤ 41) (fun (s : Nat) => [(12, .int .i64 (s : Int))]) [7, 9] (0) ?_ (.cons rfl (.cons rfl .nil)) ?_ ?_
  ·exact ⟨hw77, by omega⟩
  ·exact (.cons rfl (by first | rfl | (refine congrArg (Value.int _) ?_; omega)) .nil)
  rintro s w139 ⟨hw139, hs⟩
  show RunC P _ _ _ (_ :: _) _
  simp only [gW, List.cons_append, List.nil_append] at hw139
  refine c_seq (c_seq (c_region (l_move rfl rfl rfl ?_)))
  refine l_lss rfl rfl rfl rfl ?_
  refine l_nil (e_then ?_)
  refine c_keep [7, 9, 12, 92] (.cons rfl (.cons rfl (.cons rfl (.cons rfl .nil)))) ?_
  first | refine c_cond rfl (fun hc5 => ?_) (fun hc5 => ?_) | refine c_condb rfl (fun hc5 => ?_) (fun hc5 => ?_)
  ·skip
   refine c_skip (e_then ?_)
   refine c_keep [7, 9, 12] (.cons rfl (.cons rfl (.cons rfl .nil))) ?_
   refine c_seq (c_block (c_seq (c_region ?_)))
   have hbe : (sgF gZ.abs (s : Int)).built = (sgF hZ.abs (s : Int)).built := alike_b hIg3 hmg hIh3 hmh (by omega)
   refine l_move rfl rfl rfl (l_move rfl rfl rfl ?_)
   have hw140 := St.frontL (l := [_, _, _]) hw139
   simp only [List.cons_append, List.nil_append] at hw140
   try clear hw139
   have hw141 := St.frontL (l := [_, _, _]) hw140
   simp only [List.cons_append, List.nil_append] at hw141
   try clear hw140
   have hw142 := St.frontL (l := [_, _, _]) hw141
   simp only [List.cons_append, List.nil_append] at hw142
   try clear hw141
   have hw143 := St.frontL (l := [_, _, _]) hw142
   simp only [List.cons_append, List.nil_append] at hw143
   try clear hw142
   refine l_callp rfl rfl Try.func16 rfl rfl (.cons rfl (.cons rfl .nil)) (BuiltG gb gZ hIg3.wf.sgX (s : Int) w139 (GF.of (σ := _) (b := gb) (X := gZ) hw143)) ?_
   refine l_move rfl rfl rfl (l_move rfl rfl rfl ?_)
   have hw144 := St.frontL (l := [_, _, _, _, _, _, _]) hw143
   simp only [List.cons_append, List.nil_append] at hw144
   try clear hw143
   have hw145 := St.frontL (l := [_, _, _, _, _, _, _]) hw144
   simp only [List.cons_append, List.nil_append] at hw145
   try clear hw144
   have hw146 := St.frontL (l := [_, _, _, _, _, _, _]) hw145
   simp only [List.cons_append, List.nil_append] at hw146
   try clear hw145
   have hw147 := St.frontL (l := [_, _, _, _, _, _, _]) hw146
   simp only [List.cons_append, List.nil_append] at hw147
   try clear hw146
   refine l_callp rfl rfl Try.func16 rfl rfl (.cons rfl (.cons rfl .nil)) (BuiltG hb hZ hIh3.wf.sgX (s : Int) w139 (GF.of (σ := _) (b := hb) (X := hZ) hw147)) ?_
   refine l_neq rfl rfl rfl rfl ?_
   refine l_turn (s := 101) (v' := .bool false) rfl (by rw [hbe]; simp) ?_
   refine l_nil (e_then ?_)
   refine c_keep [7, 9, 12, 101] (.cons rfl (.cons rfl (.cons rfl (.cons rfl .nil)))) ?_
   refine c_cond_f rfl rfl ?_
   refine c_skip ?_
   refine e_blk ?_
   refine e_then ?_
   refine c_keep [7, 9, 12] (.cons rfl (.cons rfl (.cons rfl .nil))) ?_
   refine c_region ?_
   have hw148 := St.frontL (l := [_, _, _, _, _, _, _, _, _]) hw147
   simp only [List.cons_append, List.nil_append] at hw148
   try clear hw147
   have hw149 := St.frontL (l := [_, _, _, _, _, _, _, _, _]) hw148
   simp only [List.cons_append, List.nil_append] at hw149
   try clear hw148
   have hw150 := St.frontL (l := [_, _, _, _, _]) hw149
   simp only [List.cons_append, List.nil_append] at hw150
   try clear hw149
   have hw151 := St.frontL (l := [_, _, _, _, _]) hw150
   simp only [List.cons_append, List.nil_append] at hw151
   try clear hw150
   have hw152 := St.frontL (l := [_, _, _, _, _]) hw151
   simp only [List.cons_append, List.nil_append] at hw152
   try clear hw151
   have hw153 := St.frontL (l := [_, _, _, _, _]) hw152
   simp only [List.cons_append, List.nil_append] at hw153
   try clear hw152
   have hw154 := St.frontL (l := [_, _, _, _, _, _, _, _, _]) hw153
   simp only [List.cons_append, List.nil_append] at hw154
   try clear hw153
   have hw155 := St.frontL (l := [_, _, _, _, _, _, _, _, _]) hw154
   simp only [List.cons_append, List.nil_append] at hw155
   try clear hw154
   have hw156 := St.frontL (l := [_, _, _, _, _, _, _, _, _]) hw155
   simp only [List.cons_append, List.nil_append] at hw156
   try clear hw155
   have hw157 := St.frontL (l := [_, _, _, _, _, _, _, _, _]) hw156
   simp only [List.cons_append, List.nil_append] at hw157
   try clear hw156
   refine l_move rfl rfl rfl ?_
   refine l_add rfl rfl rfl rfl (w_i64 (by omega)) ?_
   refine l_assign rfl rfl rfl (l_nil ?_)
   refine e_againk (i := (s)) (s + 1) ?_ ?_ (.cons rfl (.cons rfl .nil)) ?_
   ·first | omega | (simp; omega)
   ·exact ⟨hw157, by omega⟩
   ·exact (.cons rfl (by first | rfl | (refine congrArg (Value.int _) ?_; omega)) .nil)
  ·skip
   refine c_exit ?_
   refine e_then_exit ?_
   refine e_then_exit ?_
   refine e_blk_exit ?_
   refine e_then ?_
   refine c_keep [] .nil ?_
   refine c_seq (c_region (l_assign rfl rfl rfl (l_nil (e_then ?_))))
   refine c_ret ?_
   refine e_done1 Try.results3 rfl ?_
   refine ⟨_, rfl, ?_⟩
   have hw158 := St.del (.tail (.tail (.tail (.tail (.tail (.tail (.tail (.tail (.tail .head))))))))) hw139
   try clear hw139
   have hw159 := St.del (.tail (.tail (.tail (.tail (.tail (.tail (.tail (.tail .head)))))))) hw158
   try clear hw158
   have hw160 := St.del (.tail (.tail (.tail (.tail (.tail (.tail (.tail .head))))))) hw159
   try clear hw159
   have hw161 := St.del (.tail (.tail (.tail (.tail (.tail (.tail .head)))))) hw160
   try clear hw160
   have hw162 := St.del (.tail (.tail (.tail (.tail (.tail .head))))) hw161
   try clear hw161
   have hw163 := St.del (.tail (.tail (.tail (.tail .head)))) hw162
   try clear hw162
   have hw164 := St.del (.tail (.tail (.tail .head))) hw163
   try clear hw163
   have hw165 := St.del (.tail (.tail .head)) hw164
   try clear hw164
   have hw166 := St.del (.tail .head) hw165
   try clear hw165
   have hw167 := St.del .head hw166
   try clear hw166
   exact ⟨rfl, hw167.grows⟩
end Go.Proofs.Ytgfkagaacdblbaa.W
