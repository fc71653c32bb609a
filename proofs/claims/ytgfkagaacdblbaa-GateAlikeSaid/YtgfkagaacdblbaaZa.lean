/- the law GateWaits -/
import Derived.Test.YtgfkagaacdblbaaYz
set_option linter.unusedVariables false
set_option linter.unusedSimpArgs false
set_option maxRecDepth 10000
namespace Go.Proofs.Ytgfkagaacdblbaa.W
open Go.Vc Go.RowKit
theorem iv_cut1 {w : World} {v : Value} {l : List Int} {i : Nat} (h : IV w v (ints .i64 l)) (hi : i < l.length) : ∃ A c, v = .slice A l.length c ∧ l.length ≤ c ∧ IV w (.slice (cutA A i c 1) (i + 1 - i) (c - i)) (ints .i64 [l.getD i 0]) := by
 obtain ⟨A, c, e, hc, hs⟩ := h
 rw [List.length_map] at e hc
 refine ⟨A, c, e, hc, ?_⟩
 have := IV.cut (c := 0) (l := i) (k := i + 1) (m := c) hs (by omega) (by simp; omega) (by omega)
 rw [show ((ints .i64 l).take (i + 1)).drop i = ints .i64 [l.getD i 0] from by
  unfold ints
  rw [← List.map_take, ← List.map_drop, take_snoc' hi, List.drop_append, List.length_take, Nat.min_eq_left (Nat.le_of_lt hi), Nat.sub_self, List.drop_eq_nil_of_le (by rw [List.length_take]; omega)]
  rfl] at this
 exact this
theorem Iv.hand {ls : List (List Int)} {G : GW} (h : Iv ls G) {i : Nat} {l : List Int} (hl : ls[i]? = some l) : ∃ hd : Hd, G.hs[i]? = some hd ∧ hd.asks = l ∧ handF G (i : Int) = (hd.line, (hd.nx : Int), if hd.line = 2 ∨ hd.line = 3 then wantH hd else -1) ∧ mayG G i = mayH hd (sgN G (wantN hd)) ∧ (hd.line = 1 → hd.nx < l.length ∧ sgF G (whereS (l.getD hd.nx 0)).1 = sgN G (wantN hd)) := by
 have hi : i < G.hs.length := by rw [h.lv.len]; exact (List.getElem?_eq_some_iff.1 hl).1
 have hg := List.getElem?_eq_getElem hi
 have ha := h.lv.ask i _ hg
 rw [hl] at ha
 have ha : l = (G.hs[i]).asks := by simpa using ha
 have ho := h.wf.hd i _ hg
 refine ⟨_, hg, ha.symm, ?_, ?_, fun h1 => ⟨by rw [ha]; exact ho.nx (by omega), ?_⟩⟩
 ·unfold handF
  rw [if_pos (by omega), show ((i : Nat) : Int).toNat = i from rfl, hg]
 ·unfold mayG
  rw [hg]
 ·have hb := where_bd (l.getD (G.hs[i]).nx 0)
  unfold sgF
  rw [if_pos (by omega)]
  unfold wantN wantH
  rw [← ha]
  rfl
theorem movesTo_at {G : GW} {h : Nat} (hh : h < G.hs.length) (hm : mayG G h = true) : (movesTo G h).length < (movesG G).length ∧ (movesR (movesG G))[(movesTo G h).length]? = some [.int .i64 (h : Int), .int .i64 0] := by
 have hp : movesTo G h ++ [h] <+: movesG G := by
  have h1 := movesTo_pre G (G.hs.length - (h + 1)) (h + 1)
  rw [show h + 1 + (G.hs.length - (h + 1)) = G.hs.length by omega, movesTo_succ, if_pos hm] at h1
  exact h1
 obtain ⟨t, ht⟩ := hp
 have hl := congrArg List.length ht
 simp only [List.length_append, List.length_cons, List.length_nil] at hl
 refine ⟨by omega, ?_⟩
 unfold movesR
 rw [← ht, List.getElem?_map, List.append_assoc, List.getElem?_append_right (Nat.le_refl _), Nat.sub_self]
 rfl
theorem movesTo_le (G : GW) (n : Nat) : (movesTo G n).length ≤ n := by
 unfold movesTo
 exact Nat.le_trans (List.length_filter_le ..) (by simp)
theorem play1 {G0 G : GW} {q : Int} {k : Nat} (h : PlayN G0 [q] k G) (hE : k = 1 ∨ (k < 1 ∧ movesG G = [])) : (k : Int) = min 1 ((movesG G0).length : Int) := by
 rcases hE with rfl | ⟨hk, hm⟩
 ·cases h with
  | succ h2 hm2 hp =>
   cases h2
   have := List.length_pos_iff.2 hm2
   omega
 ·obtain rfl : k = 0 := by omega
  cases h
  rw [hm]
  rfl
theorem gateWaitsL (v : Value) (vs : List Value) (ls : List (List Int)) (hvl : vs.length = ls.length) (hrg : ∀ l ∈ ls, Rg (-9223372036854775808) 9223372036854775807 l) (v1 : Value) (l1 : List Int) (hrl1 : Rg (-9223372036854775808) 9223372036854775807 l1) (w : World) (hv : IV w v vs) (hvs : ∀ (j : Nat) (x : Value) (l : List Int), vs[j]? = some x → ls[j]? = some l → IV w x (ints .i64 l)) (hv1 : IV w v1 (ints .i64 l1)) :
  CallsV P 4 [v, v1] w fun r w' => r = .bool true ∧ Grow w w' [] := by
 refine enterW Try.func4 rfl Try.ntmps4 rfl ?_
 have hw0 := St.start w
 refine c_seq (c_region (l_assign rfl rfl rfl (l_nil (e_then ?_))))
 refine c_keep [0, 1] (.cons rfl (.cons rfl .nil)) ?_
 refine c_seq (c_region (l_move rfl rfl rfl ?_))
 refine l_call rfl rfl Try.func8 rfl rfl (.cons rfl .nil) (AsksL v vs ls hvl hrg w (hw0.iarg hv) (fun j x l h1 h2 => hw0.iarg (hvs j x l h1 h2))) ?_
 rintro vo w1 ⟨_, xs, rfl, hxs, hG⟩
 have hw1 := hG _ _ _ _ hw0
 try clear hG hw0
 simp only [List.cons_append, List.nil_append] at hw1
 refine l_assign rfl rfl rfl (l_nil (e_then ?_))
 refine c_keep [0, 1] (.cons rfl (.cons rfl .nil)) ?_
 refine c_seq (c_region (l_move rfl rfl rfl ?_))
 refine l_call rfl rfl Try.func9 rfl rfl (.cons rfl .nil) (newOk vo (xs.map Prod.fst) (asksF ls) (xs_len hxs) (by rw [xs_len hxs]; have := (asksF_ok ls).1; omega) (okA_rg (asksF_ok ls)) (asksF_ok ls) w1 (hw1.io mem0) (xs_iv (hw1.ok mem1) hxs)) ?_
 rintro _ w2 ⟨gb, gX, rfl, hgX, hG⟩
 have hw2 := hG _ _ _ _ hw1
 simp only [gW, List.cons_append, List.nil_append] at hw2
 try clear hX hw1
 refine l_move rfl rfl rfl (l_extract rfl rfl rfl rfl (l_extract rfl rfl rfl rfl (l_assign rfl rfl rfl (l_assign rfl rfl rfl (l_nil ?_)))))
 refine e_then ?_
 refine c_keep [0, 1, 5, 6] (.cons rfl (.cons rfl (.cons rfl (.cons rfl .nil)))) ?_
 refine c_seq (c_seq (c_region ?_))
 have hx16 : (xs.map Prod.fst).length ≤ 16 := by rw [xs_len hxs]; exact (asksF_ok ls).1
 have hIg : Iv (asksF ls) gX.abs := by rw [hgX]; exact newG_iv (asksF_ok ls)
 refine l_move rfl rfl rfl ?_
 refine l_callp rfl rfl Try.func10 rfl rfl (.cons rfl .nil) (numL28 _ _) ?_
 refine l_neq rfl rfl rfl rfl ?_
 refine l_turn (s := 25) (v' := .bool false) rfl (by rfl) ?_
 refine l_move rfl rfl rfl (l_move rfl rfl rfl ?_)
 refine l_eqlp (by kernel_rfl) rfl rfl rfl rfl ?_
 refine l_turn (s := 28) (v' := .bool false) rfl (by rfl) ?_
 refine l_pick_f rfl rfl rfl rfl ?_
 refine l_move rfl rfl rfl ?_
 refine l_call rfl rfl Try.func11 rfl rfl .nil (wakes28 w2) ?_
 rintro _ w3 ⟨rfl, hG⟩
 have hw3 := hG _ _ _ _ hw2
 try clear hG hw2
 simp only [List.cons_append, List.nil_append] at hw3
 first | refine l_notd rfl rfl rfl ?_ | refine l_not rfl rfl rfl ?_
 refine l_turn (s := 32) (v' := .bool false) rfl (by rfl) ?_
 refine l_pick_f rfl rfl rfl rfl ?_
 refine l_nil (e_then ?_)
 refine c_keep [0, 1, 5, 33] (.cons rfl (.cons rfl (.cons rfl (.cons rfl .nil)))) ?_
 refine c_cond_f rfl rfl ?_
 refine c_skip (e_then ?_)
 refine c_keep [0, 1, 5] (.cons rfl (.cons rfl (.cons rfl .nil))) ?_
 refine c_seq (c_seq (c_region (l_assign rfl rfl rfl (l_nil (e_then ?_)))))
 refine c_block ?_
 refine c_loopk (ι := Nat × Gm) (fun (z0 : Nat × Gm) => match z0 with | ⟨i, Y⟩ => l1.length - i) (fun (z0 : Nat × Gm) (w' : World) => match z0 with | ⟨i, Y⟩ => St w w.heap.size None' (gW gb Y ++ [As.ro 23 vo (xs.map Prod.fst), As.sep (xs.map (fun p : Value × List Int => As.ri 3 .i64 p.1 p.2))]) w' ∧ i ≤ l1.length ∧ Iv (asksF ls) Y.abs) (fun (z0 : Nat × Gm) => match z0 with | ⟨i, Y⟩ => [(7, .int .i64 (i : Int))]) [0, 1, 5] (0, gX) ?_ (.cons rfl (.cons rfl (.cons rfl .nil))) ?_ ?_
 ·exact ⟨hw3, by omega, hIg⟩
 ·exact (.cons rfl (by first | rfl | (refine congrArg (Value.int _) ?_; omega)) .nil)
 rintro ⟨i, Y⟩ w4 ⟨hw4, hi, hIv⟩
 show RunC P _ _ _ (_ :: _) _
 simp only [gW, List.cons_append, List.nil_append] at hw4
 refine c_seq (c_seq (c_region (l_move rfl rfl rfl (l_move rfl rfl rfl ?_))))
 refine v_leni rfl rfl Try.underlying23 rfl (by first | exact hw4.ibl mem0 | exact hw4.ik (by assumption) mem1 | exact hw4.io mem2 | exact hw4.io mem4 | exact hw4.iarg hv | exact hw4.iarg hv1 | assumption) ?_
 refine l_lss rfl rfl rfl rfl ?_
 refine l_move rfl rfl rfl ?_
 apply l_and 2 [0, 1, 5, 7] rfl rfl (.cons rfl (.cons rfl (.cons rfl (.cons rfl (.cons rfl .nil))))) rfl rfl (fun _ => rfl) rfl rfl rfl
 ·intro hg6_5
  refine l_move rfl rfl rfl ?_
  refine l_lss rfl rfl rfl rfl ?_
  refine l_nil ?_
  exact e_stays rfl (.cons rfl (congrArg Value.bool (decide_eq_true hg6_5).symm) (.cons rfl rfl (.cons rfl rfl (.cons rfl rfl (.cons rfl rfl .nil)))))
  all_goals infer_instance
 refine l_nil (e_then ?_)
 refine c_keep [0, 1, 5, 7, 41] (.cons rfl (.cons rfl (.cons rfl (.cons rfl (.cons rfl .nil))))) ?_
 first | refine c_cond rfl (fun hc1 => ?_) (fun hc1 => ?_) | refine c_condb rfl (fun hc1 => ?_) (fun hc1 => ?_)
 ·skip
  refine c_skip (e_then ?_)
  refine c_keep [0, 1, 5, 7] (.cons rfl (.cons rfl (.cons rfl (.cons rfl .nil)))) ?_
  refine c_seq (c_block (c_seq (c_region ?_)))
  have hil1 : i < l1.length := by omega
  have hhl : Y.abs.hs.length = (asksF ls).length := hIv.lv.len
  have hxl := xs_len hxs
  have hmgl : (movesG Y.abs).length ≤ 16 := Nat.le_trans (movesTo_le _ _) (by omega)
  refine l_move rfl rfl rfl ?_
  have hw5 := St.frontL (l := [_, _, _]) hw4
  simp only [List.cons_append, List.nil_append] at hw5
  try clear hw4
  have hw6 := St.frontL (l := [_, _, _]) hw5
  simp only [List.cons_append, List.nil_append] at hw6
  try clear hw5
  have hw7 := St.frontL (l := [_, _, _]) hw6
  simp only [List.cons_append, List.nil_append] at hw7
  try clear hw6
  have hw8 := St.frontL (l := [_, _, _]) hw7
  simp only [List.cons_append, List.nil_append] at hw8
  try clear hw7
  refine l_call rfl rfl Try.func17 rfl rfl (.cons rfl .nil) (MovesG gb Y hIv.wf w4 (St.rows (τ := gW gb Y) hw8)) ?_
  rintro mv w9 ⟨_, rfl, hX2⟩
  have hw9 := hX2 _ _ _ _ hw8
  simp only [gW, List.cons_append, List.nil_append] at hw9
  try clear hX hw8
  refine l_assign rfl rfl rfl (l_nil (e_then ?_))
  refine c_keep [0, 1, 5, 7, 8] (.cons rfl (.cons rfl (.cons rfl (.cons rfl (.cons rfl .nil))))) ?_
  refine c_seq (c_region (l_assign rfl rfl rfl (l_nil (e_then (c_seq ?_)))))
  refine c_seq (c_region ?_)
  have hw10 := St.frontL (l := [_, _, _, _, _, _]) hw9
  simp only [List.cons_append, List.nil_append] at hw10
  try clear hw9
  have hw11 := St.frontL (l := [_, _, _, _, _, _]) hw10
  simp only [List.cons_append, List.nil_append] at hw11
  try clear hw10
  have hw12 := St.frontL (l := [_, _, _, _, _, _]) hw11
  simp only [List.cons_append, List.nil_append] at hw12
  try clear hw11
  have hw13 := St.frontL (l := [_, _, _, _, _, _]) hw12
  simp only [List.cons_append, List.nil_append] at hw13
  try clear hw12
  have hw14 := St.frontL (l := [_, _, _, _, _, _]) hw13
  simp only [List.cons_append, List.nil_append] at hw14
  try clear hw13
  have hw15 := St.frontL (l := [_, _, _, _, _, _]) hw14
  simp only [List.cons_append, List.nil_append] at hw15
  try clear hw14
  have hw16 := St.frontL (l := [_, _, _, _, _, _]) hw15
  simp only [List.cons_append, List.nil_append] at hw16
  try clear hw15
  refine l_assign rfl rfl rfl (l_nil (e_then (c_block ?_)))
  refine c_loopk (ι := Nat) (fun (h : Nat) => (xs.map Prod.fst).length - h) (fun (h : Nat) (w' : World) => St w w.heap.size None' (gW gb Y ++ [As.rk 47 2 mv (movesR (movesG Y.abs)), As.ro 23 vo (xs.map Prod.fst), As.sep (xs.map (fun p : Value × List Int => As.ri 3 .i64 p.1 p.2))]) w' ∧ h ≤ (xs.map Prod.fst).length) (fun (h : Nat) => [(9, .int .i64 ((movesTo Y.abs h).length : Int)), (10, .int .i64 (h : Int))]) [0, 1, 5, 7, 8] (0) ?_ (.cons rfl (.cons rfl (.cons rfl (.cons rfl (.cons rfl .nil))))) ?_ ?_
  ·exact ⟨hw16, by omega⟩
  ·exact (.cons rfl (by first | rfl | (refine congrArg (Value.int _) ?_; omega)) (.cons rfl (by first | rfl | (refine congrArg (Value.int _) ?_; omega)) .nil))
  rintro h w17 ⟨hw17, hh⟩
  show RunC P _ _ _ (_ :: _) _
  simp only [gW, List.cons_append, List.nil_append] at hw17
  refine c_seq (c_seq (c_region (l_move rfl rfl rfl (l_move rfl rfl rfl ?_))))
  refine v_len rfl rfl Try.underlying22 rfl (by first | exact hw17.ibl mem0 | exact hw17.ik (by assumption) mem1 | exact hw17.io mem2 | exact hw17.ik (by assumption) mem4 | exact hw17.io mem5 | exact hw17.iarg hv | exact hw17.iarg hv1 | assumption) ?_
  refine l_lss rfl rfl rfl rfl ?_
  refine l_nil (e_then ?_)
  refine c_keep [0, 1, 5, 7, 8, 9, 10, 49] (.cons rfl (.cons rfl (.cons rfl (.cons rfl (.cons rfl (.cons rfl (.cons rfl (.cons rfl .nil)))))))) ?_
  first | refine c_cond rfl (fun hc2 => ?_) (fun hc2 => ?_) | refine c_condb rfl (fun hc2 => ?_) (fun hc2 => ?_)
  ·skip
   refine c_skip (e_then ?_)
   refine c_keep [0, 1, 5, 7, 8, 9, 10] (.cons rfl (.cons rfl (.cons rfl (.cons rfl (.cons rfl (.cons rfl (.cons rfl .nil))))))) ?_
   refine c_seq (c_block (c_seq (c_region ?_)))
   have hi1 : h < (asksF ls).length := by have := xs_len hxs; omega
   obtain ⟨x, hxi⟩ : ∃ x, (xs.map Prod.fst)[h]? = some x := ⟨_, List.getElem?_eq_getElem (by have := xs_len hxs; omega)⟩
   obtain ⟨l, hli⟩ : ∃ l, (asksF ls)[h]? = some l := ⟨_, List.getElem?_eq_getElem hi1⟩
   obtain ⟨Ax, cx, hxe, _, _⟩ := xs_iv (hw17.ok mem6) hxs h x l hxi hli
   rw [List.length_map] at hxe
   have hlok := (asksF_ok ls).2 l (List.mem_of_getElem? hli)
   have hl64 := hlok.1
   have hRg : Rg (-342) 308 l := hlok.2
   obtain ⟨hd, hgh, hask, hHF, hmay, hln⟩ := hIv.hand hli
   have hho := hIv.wf.hd h hd hgh
   have hkl := hho.line
   obtain ⟨tk, htk⟩ : ∃ tk : Int, (if hd.line = 2 ∨ hd.line = 3 then wantH hd else -1) = tk := ⟨_, rfl⟩
   rw [htk] at hHF
   have hml := movesTo_le Y.abs h
   refine l_move rfl rfl rfl (l_move rfl rfl rfl ?_)
   have hw18 := St.frontL (l := [_, _, _]) hw17
   simp only [List.cons_append, List.nil_append] at hw18
   try clear hw17
   have hw19 := St.frontL (l := [_, _, _]) hw18
   simp only [List.cons_append, List.nil_append] at hw19
   try clear hw18
   have hw20 := St.frontL (l := [_, _, _]) hw19
   simp only [List.cons_append, List.nil_append] at hw20
   try clear hw19
   have hw21 := St.frontL (l := [_, _, _]) hw20
   simp only [List.cons_append, List.nil_append] at hw21
   try clear hw20
   refine l_call rfl rfl Try.func18 rfl rfl (.cons rfl (.cons rfl .nil)) (HandG gb Y hIv.wf (h : Int) w17 (GF.of (σ := _) (b := gb) (X := Y) hw21)) ?_
   rintro _ w22 ⟨rfl, hG⟩
   have hw22 := hG _ _ _ _ hw21
   try clear hG hw21
   simp only [List.cons_append, List.nil_append] at hw22
   refine l_turn (s := 54) (v' := handVal (hd.line, (hd.nx : Int), tk)) rfl (by rw [hHF]) ?_
   refine l_alloc hw22 ta41 rfl rfl (fun b13_3 w23 hw23 => ?_)
   try clear hw22
   refine l_store_blks hw23 .head (.zero (.zero (.zero .nil))) rfl tz41 rfl rfl (by first | (simp [Value.oneCell']; done) | (intro u hu; simp only [List.mem_cons, List.not_mem_nil, or_false] at hu; rcases hu with rfl | rfl | rfl <;> first | rfl | assumption)) (fun w24 hw24 => ?_)
   try clear hw23
   refine l_nil (e_then ?_)
   refine c_keep [0, 1, 5, 7, 8, 9, 10, 11] (.cons rfl (.cons rfl (.cons rfl (.cons rfl (.cons rfl (.cons rfl (.cons rfl (.cons rfl .nil)))))))) ?_
   refine c_seq (c_region (l_field fo41_0 rfl rfl rfl ?_))
   refine l_load_blk hw24 mem0 rfl rfl Try.underlying3 rfl rfl rfl ?_
   refine l_eql rfl rfl rfl rfl ?_
   refine l_move rfl rfl rfl ?_
   apply l_or (q := hd.line = 3) 3 [0, 1, 5, 7, 8, 9, 10, 11] rfl rfl (.cons rfl (.cons rfl (.cons rfl (.cons rfl (.cons rfl (.cons rfl (.cons rfl (.cons rfl (.cons rfl .nil))))))))) rfl rfl (fun _ => rfl) rfl rfl rfl
   ·intro hg14_4
    refine l_field fo41_0 rfl rfl rfl ?_
    refine l_load_blk hw24 mem0 rfl rfl Try.underlying3 rfl rfl rfl ?_
    refine l_eql rfl rfl rfl rfl ?_
    refine l_nil ?_
    exact e_stays rfl (.cons rfl (congrArg Value.bool (decide_eq_false hg14_4).symm) (.cons rfl rfl (.cons rfl rfl (.cons rfl rfl (.cons rfl rfl (.cons rfl rfl (.cons rfl rfl (.cons rfl rfl (.cons rfl rfl .nil)))))))))
    all_goals infer_instance
   refine l_assign rfl rfl rfl (l_nil (e_then ?_))
   refine c_keep [0, 1, 5, 7, 8, 9, 10, 11, 12] (.cons rfl (.cons rfl (.cons rfl (.cons rfl (.cons rfl (.cons rfl (.cons rfl (.cons rfl (.cons rfl .nil))))))))) ?_
   refine c_cutk (ι := Bool) (fun (cb : Bool) (w' : World) => St w w.heap.size None' (gW gb Y ++ [As.rk 47 2 mv (movesR (movesG Y.abs)), As.ro 23 vo (xs.map Prod.fst), As.sep (xs.map (fun p : Value × List Int => As.ri 3 .i64 p.1 p.2))]) w' ∧ cb = mayG Y.abs h) (fun (cb : Bool) => [(12, .bool cb)]) [0, 1, 5, 7, 8, 9, 10] (.cons rfl (.cons rfl (.cons rfl (.cons rfl (.cons rfl (.cons rfl (.cons rfl .nil))))))) ?_ ?_
   ·skip
    refine c_seq (c_region (l_field fo41_0 rfl rfl rfl ?_))
    refine l_load_blk hw24 mem0 rfl rfl Try.underlying3 rfl rfl rfl ?_
    refine l_eql rfl rfl rfl rfl ?_
    refine l_nil (e_then ?_)
    refine c_keep [0, 1, 5, 7, 8, 9, 10, 11, 12, 65] (.cons rfl (.cons rfl (.cons rfl (.cons rfl (.cons rfl (.cons rfl (.cons rfl (.cons rfl (.cons rfl (.cons rfl .nil)))))))))) ?_
    first | refine c_cond rfl (fun hc3 => ?_) (fun hc3 => ?_) | refine c_condb rfl (fun hc3 => ?_) (fun hc3 => ?_)
    ·skip
     refine c_seq (c_seq ?_)
     have hw25 := hw24.drewn
     try clear hw24
     obtain ⟨A16, c16, hv16⟩ := (hw25.io mem6).lies (by omega)
     have hn1 := (hln (by omega)).1
     refine c_any (n := 13) [false, false, false, false, false, false, false, false, false, false, false, false, false] (fun wS => (As.blk b13_3 41 [.int .i64 hd.line, .int .i64 (hd.nx : Int), .int .i64 tk]).ok wS ∧ IV wS vo (xs.map Prod.fst)) (by kernel_rfl) rfl rfl ?_
     apply a_take (L' := [true, false, false, false, false, false, false, false, false, false, false, false, false]) 0 rfl (by kernel_rfl) (by kernel_rfl) (by kernel_rfl) rfl rfl rfl rfl rfl (⟨hw25.ok mem0, hw25.io mem6⟩)
     ·intro wS sS
      refine l_field fo41_1 rfl rfl rfl (l_nil ?_)
      exact e_got rfl
     apply a_take (L' := [true, true, false, false, false, false, false, false, false, false, false, false, false]) 1 rfl (by kernel_rfl) (by kernel_rfl) (by kernel_rfl) rfl rfl rfl rfl rfl (⟨hw25.ok mem0, hw25.io mem6⟩)
     ·intro wS sS
      refine l_load_blk (blk_st sS.1) mem0 rfl rfl Try.underlying3 rfl rfl rfl ?_
      refine l_nil ?_
      exact e_got rfl
     apply a_take (L' := [true, true, true, false, false, false, false, false, false, false, false, false, false]) 2 rfl (by kernel_rfl) (by kernel_rfl) (by kernel_rfl) rfl rfl rfl rfl rfl (⟨hw25.ok mem0, hw25.io mem6⟩)
     ·intro wS sS
      refine l_lss rfl rfl rfl rfl ?_
      refine l_turn (s := 68) (v' := .bool false) rfl (by exact congrArg Value.bool (decide_eq_false (by omega))) ?_
      refine l_nil ?_
      exact e_got rfl
     apply a_take (L' := [true, true, true, true, false, false, false, false, false, false, false, false, false]) 3 rfl (by kernel_rfl) (by kernel_rfl) (by kernel_rfl) rfl rfl rfl rfl rfl (⟨hw25.ok mem0, hw25.io mem6⟩)
     ·intro wS sS
      refine l_move rfl rfl rfl (l_nil ?_)
      exact e_got rfl
     apply a_take (L' := [true, true, true, true, true, false, false, false, false, false, false, false, false]) 4 rfl (by kernel_rfl) (by kernel_rfl) (by kernel_rfl) rfl rfl rfl rfl rfl (⟨hw25.ok mem0, hw25.io mem6⟩)
     ·intro wS sS
      refine l_field fo41_1 rfl rfl rfl (l_nil ?_)
      exact e_got rfl
     apply a_take (L' := [true, true, true, true, true, true, false, false, false, false, false, false, false]) 5 rfl (by kernel_rfl) (by kernel_rfl) (by kernel_rfl) rfl rfl rfl rfl rfl (⟨hw25.ok mem0, hw25.io mem6⟩)
     ·intro wS sS
      refine l_load_blk (blk_st sS.1) mem0 rfl rfl Try.underlying3 rfl rfl rfl ?_
      refine l_nil ?_
      exact e_got rfl
     apply a_take (L' := [true, true, true, true, true, true, true, false, false, false, false, false, false]) 6 rfl (by kernel_rfl) (by kernel_rfl) (by kernel_rfl) rfl rfl rfl rfl rfl (⟨hw25.ok mem0, hw25.io mem6⟩)
     ·intro wS sS
      refine l_move rfl rfl rfl (l_nil ?_)
      exact e_got rfl
     apply a_take (L' := [true, true, true, true, true, true, true, true, false, false, false, false, false]) 7 rfl (by kernel_rfl) (by kernel_rfl) (by kernel_rfl) rfl rfl rfl rfl rfl (⟨hw25.ok mem0, hw25.io mem6⟩)
     ·intro wS sS
      refine l_move rfl rfl rfl (l_nil ?_)
      exact e_got rfl
     apply a_take (L' := [true, true, true, true, true, true, true, true, true, false, false, false, false]) 8 rfl (by kernel_rfl) (by kernel_rfl) (by kernel_rfl) rfl rfl rfl rfl rfl (⟨hw25.ok mem0, hw25.io mem6⟩)
     ·intro wS sS
      refine v_addrx (j := h) rfl rfl Try.underlying22 tz23 rfl rfl hv16 (by first | rfl | omega) (by first | omega | (simp; done) | (simp; omega)) ?_
      refine l_nil ?_
      exact e_got rfl
     apply a_take (L' := [true, true, true, true, true, true, true, true, true, true, false, false, false]) 9 rfl (by kernel_rfl) (by kernel_rfl) (by kernel_rfl) rfl rfl rfl rfl rfl (⟨hw25.ok mem0, hw25.io mem6⟩)
     ·intro wS sS
      refine l_load rfl rfl Try.underlying23 rfl rfl (sl_of hv16 sS.2) hxi ?_
      refine l_nil ?_
      exact e_got rfl
     refine a_one (L' := [true, true, true, true, true, true, true, true, true, true, true, false, false]) 10 (by kernel_rfl) rfl rfl ?_
     refine l_len rfl rfl Try.underlying23 (by show some x = _; rw [hxe]) ?_
     refine l_nil ?_
     refine e_any (⟨hw25.ok mem0, hw25.io mem6⟩) ?_
     apply a_take (L' := [true, true, true, true, true, true, true, true, true, true, true, true, false]) 11 rfl (by kernel_rfl) (by kernel_rfl) (by kernel_rfl) rfl rfl rfl rfl rfl (⟨hw25.ok mem0, hw25.io mem6⟩)
     ·intro wS sS
      refine l_geq rfl rfl rfl rfl ?_
      refine l_turn (s := 77) (v' := .bool false) rfl (by exact congrArg Value.bool (decide_eq_false (by omega))) ?_
      refine l_nil ?_
      exact e_got rfl
     apply a_take (L' := [true, true, true, true, true, true, true, true, true, true, true, true, true]) 12 rfl (by kernel_rfl) (by kernel_rfl) (by kernel_rfl) rfl rfl rfl rfl rfl (⟨hw25.ok mem0, hw25.io mem6⟩)
     ·intro wS sS
      refine l_pick_f rfl rfl rfl rfl ?_
      refine l_nil ?_
      exact e_got rfl
     refine a_done (by kernel_rfl) ?_
     refine e_then ?_
     refine c_keep [0, 1, 5, 7, 8, 9, 10, 11, 78] (.cons rfl (.cons rfl (.cons rfl (.cons rfl (.cons rfl (.cons rfl (.cons rfl (.cons rfl (.cons rfl .nil))))))))) ?_
     refine c_cond_f rfl rfl ?_
     refine c_skip (e_then ?_)
     refine c_keep [0, 1, 5, 7, 8, 9, 10, 11] (.cons rfl (.cons rfl (.cons rfl (.cons rfl (.cons rfl (.cons rfl (.cons rfl (.cons rfl .nil)))))))) ?_
     refine c_seq ?_
     have hw26 := hw25.drewn
     try clear hw25
     obtain ⟨A18, c18, hv18⟩ := (hw26.io mem6).lies (by omega)
     have hn1 := (hln (by omega)).1
     have hq0 := hRg.get (j := hd.nx) hn1
     obtain ⟨Ay, cy, hvx18⟩ := (xs_iv (hw26.ok mem7) hxs h x l hxi hli).lies (by simp; omega)
     refine c_any (n := 16) [false, false, false, false, false, false, false, false, false, false, false, false, false, false, false, false] (fun wS => (As.blk b13_3 41 [.int .i64 hd.line, .int .i64 (hd.nx : Int), .int .i64 tk]).ok wS ∧ IV wS vo (xs.map Prod.fst) ∧ IS wS .i64 x l) (by kernel_rfl) rfl rfl ?_
     apply a_take (L' := [true, false, false, false, false, false, false, false, false, false, false, false, false, false, false, false]) 0 rfl (by kernel_rfl) (by kernel_rfl) (by kernel_rfl) rfl rfl rfl rfl rfl (⟨hw26.ok mem0, hw26.io mem6, xs_iv (hw26.ok mem7) hxs h x l hxi hli⟩)
     ·intro wS sS
      refine l_move rfl rfl rfl (l_nil ?_)
      exact e_got rfl
     apply a_take (L' := [true, true, false, false, false, false, false, false, false, false, false, false, false, false, false, false]) 1 rfl (by kernel_rfl) (by kernel_rfl) (by kernel_rfl) rfl rfl rfl rfl rfl (⟨hw26.ok mem0, hw26.io mem6, xs_iv (hw26.ok mem7) hxs h x l hxi hli⟩)
     ·intro wS sS
      refine l_move rfl rfl rfl (l_nil ?_)
      exact e_got rfl
     apply a_take (L' := [true, true, true, false, false, false, false, false, false, false, false, false, false, false, false, false]) 2 rfl (by kernel_rfl) (by kernel_rfl) (by kernel_rfl) rfl rfl rfl rfl rfl (⟨hw26.ok mem0, hw26.io mem6, xs_iv (hw26.ok mem7) hxs h x l hxi hli⟩)
     ·intro wS sS
      refine v_addrx (j := h) rfl rfl Try.underlying22 tz23 rfl rfl hv18 (by first | rfl | omega) (by first | omega | (simp; done) | (simp; omega)) ?_
      refine l_nil ?_
      exact e_got rfl
     apply a_take (L' := [true, true, true, true, false, false, false, false, false, false, false, false, false, false, false, false]) 3 rfl (by kernel_rfl) (by kernel_rfl) (by kernel_rfl) rfl rfl rfl rfl rfl (⟨hw26.ok mem0, hw26.io mem6, xs_iv (hw26.ok mem7) hxs h x l hxi hli⟩)
     ·intro wS sS
      refine l_load rfl rfl Try.underlying23 rfl rfl (sl_of hv18 sS.2.1) hxi ?_
      refine l_nil ?_
      exact e_got rfl
     apply a_take (L' := [true, true, true, true, true, false, false, false, false, false, false, false, false, false, false, false]) 4 rfl (by kernel_rfl) (by kernel_rfl) (by kernel_rfl) rfl rfl rfl rfl rfl (⟨hw26.ok mem0, hw26.io mem6, xs_iv (hw26.ok mem7) hxs h x l hxi hli⟩)
     ·intro wS sS
      refine l_field fo41_1 rfl rfl rfl (l_nil ?_)
      exact e_got rfl
     apply a_take (L' := [true, true, true, true, true, true, false, false, false, false, false, false, false, false, false, false]) 5 rfl (by kernel_rfl) (by kernel_rfl) (by kernel_rfl) rfl rfl rfl rfl rfl (⟨hw26.ok mem0, hw26.io mem6, xs_iv (hw26.ok mem7) hxs h x l hxi hli⟩)
     ·intro wS sS
      refine l_load_blk (blk_st sS.1) mem0 rfl rfl Try.underlying3 rfl rfl rfl ?_
      refine l_nil ?_
      exact e_got rfl
     apply a_take (L' := [true, true, true, true, true, true, true, false, false, false, false, false, false, false, false, false]) 6 rfl (by kernel_rfl) (by kernel_rfl) (by kernel_rfl) rfl rfl rfl rfl rfl (⟨hw26.ok mem0, hw26.io mem6, xs_iv (hw26.ok mem7) hxs h x l hxi hli⟩)
     ·intro wS sS
      refine v_addrx (j := hd.nx) rfl rfl Try.underlying23 tz3 rfl rfl hvx18 (by first | rfl | omega) (by first | omega | (simp; done) | (simp; omega)) ?_
      refine l_nil ?_
      exact e_got rfl
     apply a_take (L' := [true, true, true, true, true, true, true, true, false, false, false, false, false, false, false, false]) 7 rfl (by kernel_rfl) (by kernel_rfl) (by kernel_rfl) rfl rfl rfl rfl rfl (⟨hw26.ok mem0, hw26.io mem6, xs_iv (hw26.ok mem7) hxs h x l hxi hli⟩)
     ·intro wS sS
      refine v_loadi rfl rfl Try.underlying3 rfl hvx18 (by first | exact sS.2.2 | exact hw26.ibl mem0 | exact hw26.ibl mem1 | exact hw26.ik (by assumption) mem2 | exact hw26.io mem3 | exact hw26.ik (by assumption) mem5 | exact hw26.io mem6 | exact hw26.iarg hv | exact hw26.iarg hv1 | assumption) (by assumption) (by first | omega | (simp; done) | (simp; omega)) (fun hb18_7 => ?_)
      refine l_nil ?_
      exact e_got rfl
     refine a_one (L' := [true, true, true, true, true, true, true, true, true, false, false, false, false, false, false, false]) 8 (by kernel_rfl) rfl rfl ?_
     refine l_callp rfl rfl Try.func19 rfl rfl (.cons rfl .nil) (whereR (l.getD hd.nx 0) (by omega) _) ?_
     refine l_nil ?_
     refine e_any (⟨hw26.ok mem0, hw26.io mem6, xs_iv (hw26.ok mem7) hxs h x l hxi hli⟩) ?_
     apply a_take (L' := [true, true, true, true, true, true, true, true, true, true, false, false, false, false, false, false]) 9 rfl (by kernel_rfl) (by kernel_rfl) (by kernel_rfl) rfl rfl rfl rfl rfl (⟨hw26.ok mem0, hw26.io mem6, xs_iv (hw26.ok mem7) hxs h x l hxi hli⟩)
     ·intro wS sS
      refine l_move rfl rfl rfl (l_nil ?_)
      exact e_got rfl
     apply a_take (L' := [true, true, true, true, true, true, true, true, true, true, true, false, false, false, false, false]) 10 rfl (by kernel_rfl) (by kernel_rfl) (by kernel_rfl) rfl rfl rfl rfl rfl (⟨hw26.ok mem0, hw26.io mem6, xs_iv (hw26.ok mem7) hxs h x l hxi hli⟩)
     ·intro wS sS
      refine l_extract rfl rfl rfl rfl (l_nil ?_)
      exact e_got rfl
     apply a_take (L' := [true, true, true, true, true, true, true, true, true, true, true, true, false, false, false, false]) 11 rfl (by kernel_rfl) (by kernel_rfl) (by kernel_rfl) rfl rfl rfl rfl rfl (⟨hw26.ok mem0, hw26.io mem6, xs_iv (hw26.ok mem7) hxs h x l hxi hli⟩)
     ·intro wS sS
      refine l_extract rfl rfl rfl rfl (l_nil ?_)
      exact e_got rfl
     apply a_take (L' := [true, true, true, true, true, true, true, true, true, true, true, true, true, false, false, false]) 12 rfl (by kernel_rfl) (by kernel_rfl) (by kernel_rfl) rfl rfl rfl rfl rfl (⟨hw26.ok mem0, hw26.io mem6, xs_iv (hw26.ok mem7) hxs h x l hxi hli⟩)
     ·intro wS sS
      refine l_extract rfl rfl rfl rfl (l_nil ?_)
      exact e_got rfl
     apply a_take (L' := [true, true, true, true, true, true, true, true, true, true, true, true, true, true, false, false]) 13 rfl (by kernel_rfl) (by kernel_rfl) (by kernel_rfl) rfl rfl rfl rfl rfl (⟨hw26.ok mem0, hw26.io mem6, xs_iv (hw26.ok mem7) hxs h x l hxi hli⟩)
     ·intro wS sS
      refine l_assign rfl rfl rfl (l_nil ?_)
      exact e_got rfl
     apply a_take (L' := [true, true, true, true, true, true, true, true, true, true, true, true, true, true, true, false]) 14 rfl (by kernel_rfl) (by kernel_rfl) (by kernel_rfl) rfl rfl rfl rfl rfl (⟨hw26.ok mem0, hw26.io mem6, xs_iv (hw26.ok mem7) hxs h x l hxi hli⟩)
     ·intro wS sS
      refine l_assign rfl rfl rfl (l_nil ?_)
      exact e_got rfl
     apply a_take (L' := [true, true, true, true, true, true, true, true, true, true, true, true, true, true, true, true]) 15 rfl (by kernel_rfl) (by kernel_rfl) (by kernel_rfl) rfl rfl rfl rfl rfl (⟨hw26.ok mem0, hw26.io mem6, xs_iv (hw26.ok mem7) hxs h x l hxi hli⟩)
     ·intro wS sS
      refine l_assign rfl rfl rfl (l_nil ?_)
      exact e_got rfl
     refine a_done (by kernel_rfl) ?_
     refine e_then ?_
     refine c_keep [0, 1, 5, 7, 8, 9, 10, 13] (.cons rfl (.cons rfl (.cons rfl (.cons rfl (.cons rfl (.cons rfl (.cons rfl (.cons rfl .nil)))))))) ?_
     refine c_region (l_move rfl rfl rfl (l_move rfl rfl rfl ?_))
     have hw27 := St.frontL (l := [_, _, _, _]) hw26
     simp only [List.cons_append, List.nil_append] at hw27
     try clear hw26
     have hw28 := St.frontL (l := [_, _, _, _]) hw27
     simp only [List.cons_append, List.nil_append] at hw28
     try clear hw27
     have hw29 := St.frontL (l := [_, _, _, _]) hw28
     simp only [List.cons_append, List.nil_append] at hw29
     try clear hw28
     have hw30 := St.frontL (l := [_, _, _, _]) hw29
     simp only [List.cons_append, List.nil_append] at hw30
     try clear hw29
     refine l_callp rfl rfl Try.func20 rfl rfl (.cons rfl (.cons rfl .nil)) (CompleteG gb Y hIv.wf.sgX (whereS (l.getD hd.nx 0)).1 (w24.drew).drew (GF.of (σ := _) (b := gb) (X := Y) hw30)) ?_
     refine l_turn (s := 94) (v' := .bool (decide ((sgF Y.abs (whereS (l.getD hd.nx 0)).1).done = true))) rfl (by simp) ?_
     refine l_move rfl rfl rfl ?_
     apply l_or (q := (sgF Y.abs (whereS (l.getD hd.nx 0)).1).built = 0) 4 [0, 1, 5, 7, 8, 9, 10] rfl rfl (.cons rfl (.cons rfl (.cons rfl (.cons rfl (.cons rfl (.cons rfl (.cons rfl (.cons rfl .nil)))))))) rfl rfl (fun _ => rfl) rfl rfl rfl
     ·intro hg19_4
      refine l_move rfl rfl rfl (l_move rfl rfl rfl ?_)
      have hw31 := St.frontL (l := [_, _, _]) hw30
      simp only [List.cons_append, List.nil_append] at hw31
      try clear hw30
      have hw32 := St.frontL (l := [_, _, _]) hw31
      simp only [List.cons_append, List.nil_append] at hw32
      try clear hw31
      have hw33 := St.frontL (l := [_, _, _]) hw32
      simp only [List.cons_append, List.nil_append] at hw33
      try clear hw32
      have hw34 := St.frontL (l := [_, _, _]) hw33
      simp only [List.cons_append, List.nil_append] at hw34
      try clear hw33
      refine l_callp rfl rfl Try.func16 rfl rfl (.cons rfl (.cons rfl .nil)) (BuiltG gb Y hIv.wf.sgX (whereS (l.getD hd.nx 0)).1 (w24.drew).drew (GF.of (σ := _) (b := gb) (X := Y) hw34)) ?_
      refine l_eql rfl rfl rfl rfl ?_
      refine l_nil ?_
      exact e_stays rfl (.cons rfl (congrArg Value.bool (decide_eq_false hg19_4).symm) (.cons rfl rfl (.cons rfl rfl (.cons rfl rfl (.cons rfl rfl (.cons rfl rfl (.cons rfl rfl (.cons rfl rfl .nil))))))))
      all_goals infer_instance
     refine l_assign rfl rfl rfl (l_nil ?_)
     have hw35 := St.frontL (l := [_, _, _, _, _, _, _]) hw30
     simp only [List.cons_append, List.nil_append] at hw35
     try clear hw30
     have hw36 := St.frontL (l := [_, _, _, _, _, _, _]) hw35
     simp only [List.cons_append, List.nil_append] at hw36
     try clear hw35
     have hw37 := St.frontL (l := [_, _, _, _, _, _, _]) hw36
     simp only [List.cons_append, List.nil_append] at hw37
     try clear hw36
     have hw38 := St.frontL (l := [_, _, _, _, _, _]) hw37
     simp only [List.cons_append, List.nil_append] at hw38
     try clear hw37
     have hw39 := St.frontL (l := [_, _, _, _, _, _]) hw38
     simp only [List.cons_append, List.nil_append] at hw39
     try clear hw38
     have hw40 := St.frontL (l := [_, _, _, _, _, _]) hw39
     simp only [List.cons_append, List.nil_append] at hw40
     try clear hw39
     have hw41 := St.frontL (l := [_, _, _, _, _, _]) hw40
     simp only [List.cons_append, List.nil_append] at hw41
     try clear hw40
     have hw42 := St.del (.tail (.tail (.tail (.tail (.tail (.tail (.tail .head))))))) hw41
     try clear hw41
     refine e_meetk (decide ((sgF Y.abs (whereS (l.getD hd.nx 0)).1).done = true ∨ (sgF Y.abs (whereS (l.getD hd.nx 0)).1).built = 0)) ?_ (.cons rfl (.cons rfl (.cons rfl (.cons rfl (.cons rfl (.cons rfl (.cons rfl .nil))))))) ?_
     ·refine ⟨hw42, ?_⟩
      rw [hmay, (hln (by omega)).2]
      unfold mayH
      rw [if_pos (by omega)]
      simp
     ·exact (.cons rfl (by first | rfl | (refine congrArg (Value.int _) ?_; omega)) .nil)
    ·skip
     refine c_skip ?_
     have hw43 := St.frontL (l := [_, _, _, _, _, _, _]) hw24
     simp only [List.cons_append, List.nil_append] at hw43
     try clear hw24
     have hw44 := St.frontL (l := [_, _, _, _, _, _, _]) hw43
     simp only [List.cons_append, List.nil_append] at hw44
     try clear hw43
     have hw45 := St.frontL (l := [_, _, _, _, _, _, _]) hw44
     simp only [List.cons_append, List.nil_append] at hw45
     try clear hw44
     have hw46 := St.frontL (l := [_, _, _, _, _, _, _]) hw45
     simp only [List.cons_append, List.nil_append] at hw46
     try clear hw45
     have hw47 := St.frontL (l := [_, _, _, _, _, _, _]) hw46
     simp only [List.cons_append, List.nil_append] at hw47
     try clear hw46
     have hw48 := St.frontL (l := [_, _, _, _, _, _, _]) hw47
     simp only [List.cons_append, List.nil_append] at hw48
     try clear hw47
     have hw49 := St.frontL (l := [_, _, _, _, _, _, _]) hw48
     simp only [List.cons_append, List.nil_append] at hw49
     try clear hw48
     have hw50 := St.del (.tail (.tail (.tail (.tail (.tail (.tail (.tail .head))))))) hw49
     try clear hw49
     refine e_meetk (decide (hd.line = 2 ∨ hd.line = 3)) ?_ (.cons rfl (.cons rfl (.cons rfl (.cons rfl (.cons rfl (.cons rfl (.cons rfl .nil))))))) ?_
     ·refine ⟨hw50, ?_⟩
      rw [hmay]
      unfold mayH
      rw [if_neg (by omega)]
     ·exact (.cons rfl (by first | rfl | (refine congrArg (Value.int _) ?_; omega)) .nil)
   rintro cb w51 ⟨hw51, hcb⟩
   show RunC P _ _ _ (_ :: _) _
   refine c_seq (c_region ?_)
   subst hcb
   refine l_move rfl rfl rfl (l_nil (e_then ?_))
   refine c_keep [0, 1, 5, 7, 8, 9, 10, 101] (.cons rfl (.cons rfl (.cons rfl (.cons rfl (.cons rfl (.cons rfl (.cons rfl (.cons rfl .nil)))))))) ?_
   first | refine c_cond rfl (fun hc5 => ?_) (fun hc5 => ?_) | refine c_condb rfl (fun hc5 => ?_) (fun hc5 => ?_)
   ·skip
    refine c_seq (c_seq (c_region ?_))
    have hmta := movesTo_at (G := Y.abs) (h := h) (by omega) (by assumption)
    have hsuc : (movesTo Y.abs (h + 1)).length = (movesTo Y.abs h).length + 1 := by rw [movesTo_succ, if_pos (by assumption), List.length_append]; rfl
    refine l_move rfl rfl rfl (l_move rfl rfl rfl ?_)
    refine k_len rfl rfl Try.underlying38 rfl (Own.ik (movesR_rows _) (hw51.ok mem4)) ?_
    refine l_turn (s := 104) (v' := .int .i64 ((movesG Y.abs).length : Int)) rfl (by rw [movesR_len]) ?_
    refine l_geq rfl rfl rfl rfl ?_
    refine l_turn (s := 105) (v' := .bool false) rfl (by exact congrArg Value.bool (decide_eq_false (by omega))) ?_
    refine l_move rfl rfl rfl (l_move rfl rfl rfl (l_move rfl rfl rfl ?_))
    refine k_addr (j := (movesTo Y.abs h).length) rfl rfl Try.underlying38 tz47 (by decide) rfl rfl (Own.ik (movesR_rows _) (hw51.ok mem4)) rfl (by rw [movesR_len]; omega) (fun A21 c21 hA21 => ?_)
    refine k_load (j := (movesTo Y.abs h).length) rfl rfl Try.underlying47 rfl tz47 rfl hA21 (Own.ik (movesR_rows _) (hw51.ok mem4)) hmta.2 ?_
    refine l_move rfl rfl rfl ?_
    refine l_buildS rfl rfl pl47 ta47 (.one rfl rfl (by first | rfl | assumption) .zero .nil) ?_
    refine l_neqA rfl rfl fl47 rfl rfl (.int rfl rfl (.int rfl rfl .nil)) ?_
    refine l_turn (s := 113) (v' := .bool false) rfl (by simp) ?_
    refine l_pick_f rfl rfl rfl rfl ?_
    refine l_nil (e_then ?_)
    refine c_keep [0, 1, 5, 7, 8, 9, 10, 114] (.cons rfl (.cons rfl (.cons rfl (.cons rfl (.cons rfl (.cons rfl (.cons rfl (.cons rfl .nil)))))))) ?_
    refine c_cond_f rfl rfl ?_
    refine c_skip (e_then ?_)
    refine c_keep [0, 1, 5, 7, 8, 9, 10] (.cons rfl (.cons rfl (.cons rfl (.cons rfl (.cons rfl (.cons rfl (.cons rfl .nil))))))) ?_
    refine c_region (l_move rfl rfl rfl ?_)
    refine l_add rfl rfl rfl rfl (w_i64 (by omega)) ?_
    refine l_assign rfl rfl rfl (l_nil ?_)
    refine e_blk ?_
    refine e_then ?_
    refine c_keep [0, 1, 5, 7, 8, 9, 10] (.cons rfl (.cons rfl (.cons rfl (.cons rfl (.cons rfl (.cons rfl (.cons rfl .nil))))))) ?_
    refine c_region ?_
    have hw52 := St.frontL (l := [_, _, _, _, _, _]) hw51
    simp only [List.cons_append, List.nil_append] at hw52
    try clear hw51
    have hw53 := St.frontL (l := [_, _, _, _, _, _]) hw52
    simp only [List.cons_append, List.nil_append] at hw53
    try clear hw52
    have hw54 := St.frontL (l := [_, _, _, _, _, _]) hw53
    simp only [List.cons_append, List.nil_append] at hw54
    try clear hw53
    have hw55 := St.frontL (l := [_, _, _, _, _, _]) hw54
    simp only [List.cons_append, List.nil_append] at hw55
    try clear hw54
    have hw56 := St.frontL (l := [_, _, _, _, _, _]) hw55
    simp only [List.cons_append, List.nil_append] at hw56
    try clear hw55
    have hw57 := St.frontL (l := [_, _, _, _, _, _]) hw56
    simp only [List.cons_append, List.nil_append] at hw57
    try clear hw56
    have hw58 := St.frontL (l := [_, _, _, _, _, _]) hw57
    simp only [List.cons_append, List.nil_append] at hw58
    try clear hw57
    refine l_move rfl rfl rfl ?_
    refine l_add rfl rfl rfl rfl (w_i64 (by omega)) ?_
    refine l_assign rfl rfl rfl (l_nil ?_)
    refine e_againk (i := (h)) (h + 1) ?_ ?_ (.cons rfl (.cons rfl (.cons rfl (.cons rfl (.cons rfl .nil))))) ?_
    ·show (xs.map Prod.fst).length - (h + 1) < (xs.map Prod.fst).length - h; omega
    ·exact ⟨hw58, by omega⟩
    ·exact (.cons rfl (by (refine congrArg (Value.int .i64) ?_; first | (rw [hsuc]; omega) | (rw [movesTo_succ, if_neg (by first | assumption | (simp only [Bool.not_eq_true]; assumption)), List.append_nil]))) (.cons rfl (by first | rfl | (refine congrArg (Value.int _) ?_; omega)) .nil))
   ·skip
    refine c_skip ?_
    refine e_blk ?_
    refine e_then ?_
    refine c_keep [0, 1, 5, 7, 8, 9, 10] (.cons rfl (.cons rfl (.cons rfl (.cons rfl (.cons rfl (.cons rfl (.cons rfl .nil))))))) ?_
    refine c_region ?_
    have hw59 := St.frontL (l := [_, _, _, _, _, _]) hw51
    simp only [List.cons_append, List.nil_append] at hw59
    try clear hw51
    have hw60 := St.frontL (l := [_, _, _, _, _, _]) hw59
    simp only [List.cons_append, List.nil_append] at hw60
    try clear hw59
    have hw61 := St.frontL (l := [_, _, _, _, _, _]) hw60
    simp only [List.cons_append, List.nil_append] at hw61
    try clear hw60
    have hw62 := St.frontL (l := [_, _, _, _, _, _]) hw61
    simp only [List.cons_append, List.nil_append] at hw62
    try clear hw61
    have hw63 := St.frontL (l := [_, _, _, _, _, _]) hw62
    simp only [List.cons_append, List.nil_append] at hw63
    try clear hw62
    have hw64 := St.frontL (l := [_, _, _, _, _, _]) hw63
    simp only [List.cons_append, List.nil_append] at hw64
    try clear hw63
    have hw65 := St.frontL (l := [_, _, _, _, _, _]) hw64
    simp only [List.cons_append, List.nil_append] at hw65
    try clear hw64
    refine l_move rfl rfl rfl ?_
    refine l_add rfl rfl rfl rfl (w_i64 (by omega)) ?_
    refine l_assign rfl rfl rfl (l_nil ?_)
    refine e_againk (i := (h)) (h + 1) ?_ ?_ (.cons rfl (.cons rfl (.cons rfl (.cons rfl (.cons rfl .nil))))) ?_
    ·show (xs.map Prod.fst).length - (h + 1) < (xs.map Prod.fst).length - h; omega
    ·exact ⟨hw65, by omega⟩
    ·exact (.cons rfl (by (refine congrArg (Value.int .i64) ?_; first | (rw [hsuc]; omega) | (rw [movesTo_succ, if_neg (by first | assumption | (simp only [Bool.not_eq_true]; assumption)), List.append_nil]))) (.cons rfl (by first | rfl | (refine congrArg (Value.int _) ?_; omega)) .nil))
  ·skip
   refine c_exit ?_
   refine e_then_exit ?_
   refine e_then_exit ?_
   refine e_blk_exit ?_
   refine e_then ?_
   refine c_keep [0, 1, 5, 7, 8, 9] (.cons rfl (.cons rfl (.cons rfl (.cons rfl (.cons rfl (.cons rfl .nil)))))) ?_
   refine c_seq (c_seq (c_region ?_))
   have hmq : (movesTo Y.abs h).length = (movesG Y.abs).length := by unfold movesG; rw [show h = Y.abs.hs.length by omega]
   refine l_move rfl rfl rfl (l_move rfl rfl rfl ?_)
   refine k_len rfl rfl Try.underlying38 rfl (Own.ik (movesR_rows _) (hw17.ok mem4)) ?_
   refine l_turn (s := 119) (v' := .int .i64 ((movesG Y.abs).length : Int)) rfl (by rw [movesR_len]) ?_
   refine l_neq rfl rfl rfl rfl ?_
   refine l_turn (s := 120) (v' := .bool false) rfl (by rw [hmq]; simp) ?_
   refine l_nil (e_then ?_)
   refine c_keep [0, 1, 5, 7, 8, 120] (.cons rfl (.cons rfl (.cons rfl (.cons rfl (.cons rfl (.cons rfl .nil)))))) ?_
   refine c_cond_f rfl rfl ?_
   refine c_skip (e_then ?_)
   refine c_keep [0, 1, 5, 7, 8] (.cons rfl (.cons rfl (.cons rfl (.cons rfl (.cons rfl .nil))))) ?_
   refine c_seq (c_region (l_move rfl rfl rfl (l_move rfl rfl rfl (l_move rfl rfl rfl (l_move rfl rfl rfl ?_)))))
   refine l_add rfl rfl rfl rfl (w_i64 (by omega)) ?_
   obtain ⟨Ap, cp, hvp, hcp, hqp⟩ := iv_cut1 (i := i) hv1 hil1
   refine l_slice (size := 1) (l := i) (h := i + 1) (mm := cp) rfl rfl Try.underlying23 tz3 (by show some v1 = _; rw [hvp]) rfl rfl rfl rfl rfl rfl (by simp) (by omega) (by omega) (Nat.le_refl _) ?_
   have hw66 := St.frontL (l := [_, _, _]) hw17
   simp only [List.cons_append, List.nil_append] at hw66
   try clear hw17
   have hw67 := St.frontL (l := [_, _, _]) hw66
   simp only [List.cons_append, List.nil_append] at hw67
   try clear hw66
   have hw68 := St.frontL (l := [_, _, _]) hw67
   simp only [List.cons_append, List.nil_append] at hw68
   try clear hw67
   have hw69 := St.frontL (l := [_, _, _]) hw68
   simp only [List.cons_append, List.nil_append] at hw69
   try clear hw68
   refine l_call rfl rfl Try.func12 rfl rfl (.cons rfl (.cons rfl .nil)) (PlayG gb Y hIv.wf (.slice (cutA Ap i cp 1) (i + 1 - i) (cp - i)) [l1.getD i 0] (fun x hx => by rw [List.mem_singleton.1 hx]; exact hrl1.get hil1) (by simp) w17 (St.rows (τ := gW gb Y) hw69) (argG (τ := gW gb Y) hw69 hqp)) ?_
   rintro _ w70 ⟨kg, Y2, rfl, hPg, hQg, hX2⟩
   have hw70 := hX2 _ _ _ _ hw69
   simp only [gW, List.cons_append, List.nil_append] at hw70
   try clear hX hw69
   have hIv2 := hIv.play hPg
   have hpl := play1 hPg hQg
   refine l_move rfl rfl rfl ?_
   refine k_len rfl rfl Try.underlying38 rfl (Own.ik (movesR_rows _) (hw70.ok mem4)) ?_
   refine l_turn (s := 129) (v' := .int .i64 ((movesG Y.abs).length : Int)) rfl (by rw [movesR_len]) ?_
   refine l_min rfl rfl rfl rfl ?_
   refine l_neq rfl rfl rfl rfl ?_
   refine l_turn (s := 131) (v' := .bool false) rfl (by rw [hpl]; simp) ?_
   refine l_nil (e_then ?_)
   refine c_keep [0, 1, 5, 7, 131] (.cons rfl (.cons rfl (.cons rfl (.cons rfl (.cons rfl .nil))))) ?_
   refine c_cond_f rfl rfl ?_
   refine c_skip ?_
   refine e_blk ?_
   refine e_then ?_
   refine c_keep [0, 1, 5, 7] (.cons rfl (.cons rfl (.cons rfl (.cons rfl .nil)))) ?_
   refine c_region ?_
   have hw71 := St.frontL (l := [_, _, _, _, _, _]) hw70
   simp only [List.cons_append, List.nil_append] at hw71
   try clear hw70
   have hw72 := St.frontL (l := [_, _, _, _, _, _]) hw71
   simp only [List.cons_append, List.nil_append] at hw72
   try clear hw71
   have hw73 := St.frontL (l := [_, _, _, _, _]) hw72
   simp only [List.cons_append, List.nil_append] at hw73
   try clear hw72
   have hw74 := St.frontL (l := [_, _, _, _, _]) hw73
   simp only [List.cons_append, List.nil_append] at hw74
   try clear hw73
   have hw75 := St.frontL (l := [_, _, _, _, _]) hw74
   simp only [List.cons_append, List.nil_append] at hw75
   try clear hw74
   have hw76 := St.frontL (l := [_, _, _, _, _]) hw75
   simp only [List.cons_append, List.nil_append] at hw76
   try clear hw75
   refine l_move rfl rfl rfl ?_
   refine l_add rfl rfl rfl rfl (w_i64 (by omega)) ?_
   refine l_assign rfl rfl rfl (l_nil ?_)
   have hw77 := St.del (.tail (.tail (.tail (.tail (.tail (.tail .head)))))) hw76
   try clear hw76
   refine e_againk (i := (i, Y)) (i + 1, Y2) ?_ ?_ (.cons rfl (.cons rfl (.cons rfl .nil))) ?_
   ·first | omega | (simp; omega)
   ·exact ⟨hw77, by omega, hIv2⟩
   ·exact (.cons rfl (by first | rfl | (refine congrArg (Value.int _) ?_; omega)) .nil)
 ·skip
  refine c_exit ?_
  refine e_then_exit ?_
  refine e_then_exit ?_
  refine e_blk_exit ?_
  refine e_then ?_
  refine c_keep [] .nil ?_
  refine c_seq (c_region (l_assign rfl rfl rfl (l_nil (e_then ?_))))
  refine c_ret ?_
  refine e_done1 Try.results4 rfl ?_
  refine ⟨_, rfl, ?_⟩
  have hw78 := St.del (.tail (.tail (.tail (.tail (.tail .head))))) hw4
  try clear hw4
  have hw79 := St.del (.tail (.tail (.tail (.tail .head)))) hw78
  try clear hw78
  have hw80 := St.del (.tail (.tail (.tail .head))) hw79
  try clear hw79
  have hw81 := St.del (.tail (.tail .head)) hw80
  try clear hw80
  have hw82 := St.del (.tail .head) hw81
  try clear hw81
  have hw83 := St.del .head hw82
  try clear hw82
  exact ⟨rfl, hw83.grows⟩
end Go.Proofs.Ytgfkagaacdblbaa.W
