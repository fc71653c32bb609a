/- the law's asks -/
import Derived.Test.YtgfkagaacdblbaaYp
set_option linter.unusedVariables false
set_option linter.unusedSimpArgs false
set_option maxRecDepth 10000
namespace Go.Proofs.Ytgfkagaacdblbaa.W
open Go.Vc Go.RowKit
theorem tmod_bd {a w : Int} (h : 0 < w) : -w < a.tmod w ∧ a.tmod w < w := by
 by_cases h0 : 0 ≤ a
 ·rw [Int.tmod_eq_emod_of_nonneg h0]
  have := Int.emod_nonneg a (show w ≠ 0 by omega)
  have := Int.emod_lt_of_pos a h
  omega
 ·have e := Int.neg_tmod (a := a) (b := w)
  rw [Int.tmod_eq_emod_of_nonneg (show 0 ≤ -a by omega)] at e
  have := Int.emod_nonneg (-a) (show w ≠ 0 by omega)
  have := Int.emod_lt_of_pos (-a) h
  omega
def witF (n lo hi : Int) : Int := if n.tmod (hi - lo + 1) < 0 then lo + (n.tmod (hi - lo + 1) + (hi - lo + 1)) else lo + n.tmod (hi - lo + 1)
theorem witF_bd {n lo hi : Int} (h : lo ≤ hi) : lo ≤ witF n lo hi ∧ witF n lo hi ≤ hi := by
 have := tmod_bd (a := n) (w := hi - lo + 1) (by omega)
 unfold witF
 split <;> omega
abbrev eQ (x : Int) : Int := witF x (-342) 308
theorem eQ_in (x : Int) : -342 ≤ eQ x ∧ eQ x ≤ 308 := witF_bd (by omega)
theorem take_snoc' {l : List Int} {i : Nat} (h : i < l.length) : l.take (i + 1) = l.take i ++ [l.getD i 0] := by
 rw [List.take_add_one, List.getD_eq_getElem?_getD, List.getElem?_eq_getElem h]
 rfl
theorem map_snoc {l : List Int} {i : Nat} (h : i < l.length) (f : Int → Int) : (l.take (i + 1)).map f = (l.take i).map f ++ [f (l.getD i 0)] := by
 rw [take_snoc' h, List.map_append]
 rfl
def askR (l : List Int) : List Int := (l.take 12).map eQ
def asksF (ls : List (List Int)) : List (List Int) := (ls.take 16).map askR
theorem askR_ok (l : List Int) : okR (askR l) := by
 refine ⟨by simp [askR]; omega, fun q hq => ?_⟩
 obtain ⟨x, _, rfl⟩ := List.mem_map.1 hq
 exact eQ_in x
theorem asksF_ok (ls : List (List Int)) : okA (asksF ls) := by
 refine ⟨by simp [asksF]; omega, fun l hl => ?_⟩
 obtain ⟨x, _, rfl⟩ := List.mem_map.1 hl
 exact askR_ok x
theorem withinW (n lo hi : Int) (hn : -9223372036854775808 ≤ n ∧ n ≤ 9223372036854775807) (hlo : lo ≤ hi ∧ hi ≤ 1000000 ∧ -1000000 ≤ lo) (w : World) :
  CallsV P 28 [.int .i64 n, .int .i64 lo, .int .i64 hi] w fun r w' => r = .int .i64 (witF n lo hi) ∧ w = w' := by
 refine enterW Try.func28 rfl Try.ntmps28 rfl ?_
 have htm := tmod_bd (a := n) (w := hi - lo + 1) (by omega)
 refine c_seq (c_region (l_assign rfl rfl rfl (l_nil (e_then ?_))))
 refine c_keep [0, 1, 2] (.cons rfl (.cons rfl (.cons rfl .nil))) ?_
 refine c_seq (c_region (l_move rfl rfl rfl (l_move rfl rfl rfl ?_)))
 refine l_sub rfl rfl rfl rfl (w_i64 (by omega)) ?_
 refine l_add rfl rfl rfl rfl (w_i64 (by omega)) ?_
 refine l_assign rfl rfl rfl (l_nil (e_then ?_))
 refine c_keep [0, 1, 7] (.cons rfl (.cons rfl (.cons rfl .nil))) ?_
 refine c_seq (c_region (l_move rfl rfl rfl (l_move rfl rfl rfl ?_)))
 refine l_rem rfl rfl rfl rfl (by omega) (rfl) ?_
 refine l_assign rfl rfl rfl (l_nil (e_then ?_))
 refine c_keep [0, 1, 7] (.cons rfl (.cons rfl (.cons rfl .nil))) ?_
 refine c_seq (c_seq (c_region (l_move rfl rfl rfl ?_)))
 refine l_lss rfl rfl rfl rfl ?_
 refine l_nil (e_then ?_)
 refine c_keep [0, 1, 7, 16] (.cons rfl (.cons rfl (.cons rfl (.cons rfl .nil)))) ?_
 first | refine c_cond rfl (fun hc0 => ?_) (fun hc0 => ?_) | refine c_condb rfl (fun hc0 => ?_) (fun hc0 => ?_)
 ·skip
  refine c_region (l_move rfl rfl rfl (l_move rfl rfl rfl ?_))
  refine l_add rfl rfl rfl rfl (w_i64 (by omega)) ?_
  refine l_assign rfl rfl rfl (l_nil (e_then ?_))
  refine c_keep [0, 1] (.cons rfl (.cons rfl .nil)) ?_
  refine c_seq (c_region (l_move rfl rfl rfl (l_move rfl rfl rfl ?_)))
  refine l_add rfl rfl rfl rfl (w_i64 (by omega)) ?_
  refine l_assign rfl rfl rfl (l_nil (e_then ?_))
  refine c_keep [6] (.cons rfl .nil) ?_
  refine c_ret ?_
  refine e_done1 Try.results28 rfl ?_
  refine ⟨_, rfl, ?_⟩
  exact ⟨congrArg (Value.int .i64) (by unfold witF; rw [if_pos hc0]), rfl⟩
 ·skip
  refine c_skip (e_then ?_)
  refine c_keep [0, 1] (.cons rfl (.cons rfl .nil)) ?_
  refine c_seq (c_region (l_move rfl rfl rfl (l_move rfl rfl rfl ?_)))
  refine l_add rfl rfl rfl rfl (w_i64 (by omega)) ?_
  refine l_assign rfl rfl rfl (l_nil (e_then ?_))
  refine c_keep [6] (.cons rfl .nil) ?_
  refine c_ret ?_
  refine e_done1 Try.results28 rfl ?_
  refine ⟨_, rfl, ?_⟩
  exact ⟨congrArg (Value.int .i64) (by unfold witF; rw [if_neg hc0]), rfl⟩
theorem AsksL (v : Value) (vs : List Value) (ls : List (List Int)) (hvl : vs.length = ls.length) (hrg : ∀ l ∈ ls, Rg (-9223372036854775808) 9223372036854775807 l) (w : World) (hv : IV w v vs) (hvs : ∀ (j : Nat) (x : Value) (l : List Int), vs[j]? = some x → ls[j]? = some l → IV w x (ints .i64 l)) :
  CallsV P 8 [v] w fun r w' => ∃ (vo : Value) (xs : List (Value × List Int)), r = vo ∧ xs.map Prod.snd = asksF ls ∧ Grow w w' [As.ro 23 vo (xs.map Prod.fst), As.sep (xs.map (fun p : Value × List Int => As.ri 3 .i64 p.1 p.2))] := by
 refine enterW Try.func8 rfl Try.ntmps8 rfl ?_
 have hw0 := St.start w
 refine c_seq (c_region (l_assign rfl rfl rfl (l_nil (e_then ?_))))
 refine c_keep [0] (.cons rfl .nil) ?_
 refine c_seq (c_region (l_assign rfl rfl rfl (l_nil (e_then (c_seq ?_)))))
 refine c_seq (c_region (l_assign rfl rfl rfl (l_nil (e_then (c_block ?_)))))
 refine c_loopk (ι := Nat × Value × List (Value × List Int)) (fun (z0 : Nat × Value × List (Value × List Int)) => match z0 with | ⟨i, vo, xs⟩ => vs.length - i) (fun (z0 : Nat × Value × List (Value × List Int)) (w' : World) => match z0 with | ⟨i, vo, xs⟩ => St w w.heap.size None' ([As.ro 23 vo (xs.map Prod.fst), As.sep (xs.map (fun p : Value × List Int => As.ri 3 .i64 p.1 p.2))]) w' ∧ i ≤ vs.length ∧ i ≤ 16 ∧ xs.map Prod.snd = (ls.take i).map askR) (fun (z0 : Nat × Value × List (Value × List Int)) => match z0 with | ⟨i, vo, xs⟩ => [(3, vo), (4, .int .i64 (i : Int))]) [0] (0, .slice none 0 0, []) ?_ (.cons rfl .nil) ?_ ?_
 ·exact ⟨St.front1 (sep_nil (St.nil hw0 23)), by omega, by omega, rfl⟩
 ·exact (.cons rfl (by first | rfl | (refine congrArg (Value.int _) ?_; omega)) (.cons rfl (by first | rfl | (refine congrArg (Value.int _) ?_; omega)) .nil))
 rintro ⟨i, vo, xs⟩ w1 ⟨hw1, hi, hi16, hxs⟩
 show RunC P _ _ _ (_ :: _) _
 refine c_seq (c_seq (c_region (l_move rfl rfl rfl (l_move rfl rfl rfl ?_))))
 refine v_len rfl rfl Try.underlying22 rfl (by first | exact hw1.io mem0 | exact hw1.iarg hv | assumption) ?_
 refine l_lss rfl rfl rfl rfl ?_
 refine l_move rfl rfl rfl ?_
 apply l_and 2 [0, 3, 4] rfl rfl (.cons rfl (.cons rfl (.cons rfl (.cons rfl .nil)))) rfl rfl (fun _ => rfl) rfl rfl rfl
 ·intro hg3_5
  refine l_move rfl rfl rfl ?_
  refine l_lss rfl rfl rfl rfl ?_
  refine l_nil ?_
  exact e_stays rfl (.cons rfl (congrArg Value.bool (decide_eq_true hg3_5).symm) (.cons rfl rfl (.cons rfl rfl (.cons rfl rfl .nil))))
  all_goals infer_instance
 refine l_nil (e_then ?_)
 refine c_keep [0, 3, 4, 14] (.cons rfl (.cons rfl (.cons rfl (.cons rfl .nil)))) ?_
 first | refine c_cond rfl (fun hc0 => ?_) (fun hc0 => ?_) | refine c_condb rfl (fun hc0 => ?_) (fun hc0 => ?_)
 ·skip
  refine c_skip (e_then ?_)
  refine c_keep [0, 3, 4] (.cons rfl (.cons rfl (.cons rfl .nil))) ?_
  refine c_seq (c_block (c_seq (c_region ?_)))
  have hi1 : i < ls.length := by omega
  obtain ⟨x, hvj⟩ : ∃ x, vs[i]? = some x := ⟨_, List.getElem?_eq_getElem (by omega)⟩
  obtain ⟨l, hlj⟩ : ∃ l, ls[i]? = some l := ⟨_, List.getElem?_eq_getElem hi1⟩
  have hx := hvs i x l hvj hlj
  have hRg := hrg l (List.mem_of_getElem? hlj)
  refine l_assign rfl rfl rfl (l_nil (e_then (c_seq (c_seq (c_region ?_)))))
  refine l_assign rfl rfl rfl (l_nil (e_then (c_block ?_)))
  refine c_loopk (ι := Nat × Value) (fun (z0 : Nat × Value) => match z0 with | ⟨k, va⟩ => l.length - k) (fun (z0 : Nat × Value) (w' : World) => match z0 with | ⟨k, va⟩ => St w w.heap.size None' ([As.ri 3 .i64 va ((l.take k).map eQ), As.ro 23 vo (xs.map Prod.fst), As.sep (xs.map (fun p : Value × List Int => As.ri 3 .i64 p.1 p.2))]) w' ∧ k ≤ l.length ∧ k ≤ 12) (fun (z0 : Nat × Value) => match z0 with | ⟨k, va⟩ => [(5, va), (6, .int .i64 (k : Int))]) [0, 3, 4] (0, .slice none 0 0) ?_ (.cons rfl (.cons rfl (.cons rfl .nil))) ?_ ?_
  ·exact ⟨St.nil hw1 3, by omega, by omega⟩
  ·exact (.cons rfl (by first | rfl | (refine congrArg (Value.int _) ?_; omega)) (.cons rfl (by first | rfl | (refine congrArg (Value.int _) ?_; omega)) .nil))
  rintro ⟨k, va⟩ w2 ⟨hw2, hk, hk12⟩
  show RunC P _ _ _ (_ :: _) _
  refine c_seq (c_seq (c_region (l_move rfl rfl rfl (l_move rfl rfl rfl (l_move rfl rfl rfl ?_)))))
  refine v_get rfl rfl rfl rfl Try.underlying22 tz23 Try.underlying23 rfl rfl rfl (by first | exact hw2.io mem0 | exact hw2.io mem1 | exact hw2.iarg hv | assumption) (by first | omega | (simp; done) | (simp; omega)) hvj ?_ rfl
  refine v_leni rfl rfl Try.underlying23 rfl (hw2.iarg hx) ?_
  refine l_lss rfl rfl rfl rfl ?_
  refine l_move rfl rfl rfl ?_
  apply l_and 2 [0, 3, 4, 5, 6] rfl rfl (.cons rfl (.cons rfl (.cons rfl (.cons rfl (.cons rfl (.cons rfl .nil)))))) rfl rfl (fun _ => rfl) rfl rfl rfl
  ·intro hg7_8
   refine l_move rfl rfl rfl ?_
   refine l_lss rfl rfl rfl rfl ?_
   refine l_nil ?_
   exact e_stays rfl (.cons rfl (congrArg Value.bool (decide_eq_true hg7_8).symm) (.cons rfl rfl (.cons rfl rfl (.cons rfl rfl (.cons rfl rfl (.cons rfl rfl .nil))))))
   all_goals infer_instance
  refine l_nil (e_then ?_)
  refine c_keep [0, 3, 4, 5, 6, 27] (.cons rfl (.cons rfl (.cons rfl (.cons rfl (.cons rfl (.cons rfl .nil)))))) ?_
  first | refine c_cond rfl (fun hc1 => ?_) (fun hc1 => ?_) | refine c_condb rfl (fun hc1 => ?_) (fun hc1 => ?_)
  ·skip
   refine c_skip (e_then ?_)
   refine c_keep [0, 3, 4, 5, 6] (.cons rfl (.cons rfl (.cons rfl (.cons rfl (.cons rfl .nil))))) ?_
   refine c_seq (c_block (c_region (l_move rfl rfl rfl (l_move rfl rfl rfl (l_move rfl rfl rfl ?_)))))
   refine v_get rfl rfl rfl rfl Try.underlying22 tz23 Try.underlying23 rfl rfl rfl (by first | exact hw2.io mem0 | exact hw2.io mem1 | exact hw2.iarg hv | assumption) (by first | omega | (simp; done) | (simp; omega)) hvj ?_ rfl
   refine l_move rfl rfl rfl ?_
   refine v_getr (j := k) rfl rfl rfl rfl Try.underlying23 tz3 Try.underlying3 rfl rfl (hw2.iarg hx) hRg rfl rfl (by first | omega | (simp; done) | (simp; omega)) (fun hb9 => ?_)
   have hq0 := hRg.get (j := k) (by omega)
   have hkl : k < l.length := by omega
   refine l_callp rfl rfl Try.func28 rfl rfl (.cons rfl (.cons rfl (.cons rfl .nil))) (withinW (l.getD k 0) (-342) 308 hq0 (by omega) _) ?_
   refine v_lit hw2 rfl rfl Try.underlying23 ti3 rfl (.cons rfl (by first | rfl | assumption) .nil) rfl rfl rfl (fun b9_9 w3 hw3 => ?_)
   try clear hw2
   refine v_push hw3 rfl rfl Try.underlying23 ti3 rfl rfl rfl rfl (by first | (simp [Value.oneCell']; done) | (intro u hu; rw [List.mem_singleton.1 hu]; assumption)) (by first | (simp; done) | (simp; omega)) (by first | (simp; done) | (simp; omega)) (fun v9_10 w4 hw4 => ?_)
   try clear hw3
   refine l_assign rfl rfl rfl (l_nil ?_)
   refine e_blk ?_
   refine e_then ?_
   refine c_keep [0, 3, 4, 5, 6] (.cons rfl (.cons rfl (.cons rfl (.cons rfl (.cons rfl .nil))))) ?_
   refine c_region (l_move rfl rfl rfl ?_)
   refine l_add rfl rfl rfl rfl (w_i64 (by omega)) ?_
   refine l_assign rfl rfl rfl (l_nil ?_)
   refine e_againk (i := (k, va)) (k + 1, v9_10) ?_ ?_ (.cons rfl (.cons rfl (.cons rfl .nil))) ?_
   ·first | omega | (simp; omega)
   ·exact ⟨hw4.cast (by rw [map_snoc hkl]; simp [As.ri, ints]), by omega, by omega⟩
   ·exact (.cons rfl (by first | rfl | (refine congrArg (Value.int _) ?_; omega)) (.cons rfl (by first | rfl | (refine congrArg (Value.int _) ?_; omega)) .nil))
  ·skip
   refine c_exit ?_
   refine e_then_exit ?_
   refine e_then_exit ?_
   refine e_blk_exit ?_
   refine e_then ?_
   refine c_keep [0, 3, 4, 5] (.cons rfl (.cons rfl (.cons rfl (.cons rfl .nil)))) ?_
   refine c_region (l_move rfl rfl rfl (l_move rfl rfl rfl ?_))
   have hva := own_oneG (hw2.ok mem0)
   have hxl : xs.length ≤ 16 := by have := congrArg List.length hxs; simp at this; omega
   have hka : (l.take k).map eQ = askR l := by unfold askR; rw [List.take_eq_take_iff.2 (show min k l.length = min 12 l.length by omega)]
   refine v_lit hw2 rfl rfl Try.underlying22 ti23 rfl (.cons rfl (by first | rfl | assumption) .nil) rfl rfl rfl (fun b10_2 w5 hw5 => ?_)
   try clear hw2
   have hw6 := St.frontL (l := [_, _]) hw5
   simp only [List.cons_append, List.nil_append] at hw6
   try clear hw5
   have hw7 := St.frontL (l := [_]) hw6
   simp only [List.cons_append, List.nil_append] at hw7
   try clear hw6
   refine v_push hw7 rfl rfl Try.underlying22 ti23 rfl rfl rfl rfl (by first | (simp [Value.oneCell']; done) | (intro u hu; rw [List.mem_singleton.1 hu]; assumption)) (by first | (simp; done) | (simp; omega)) (by first | (simp; done) | (simp; omega)) (fun v10_3 w8 hw8 => ?_)
   try clear hw7
   refine l_assign rfl rfl rfl (l_nil ?_)
   refine e_blk ?_
   refine e_then ?_
   refine c_keep [0, 3, 4] (.cons rfl (.cons rfl (.cons rfl .nil))) ?_
   refine c_region ?_
   have hw9 := St.frontL (l := [_, _]) hw8
   simp only [List.cons_append, List.nil_append] at hw9
   try clear hw8
   have hw10 := St.frontL (l := [_, _]) hw9
   simp only [List.cons_append, List.nil_append] at hw10
   try clear hw9
   refine l_move rfl rfl rfl ?_
   refine l_add rfl rfl rfl rfl (w_i64 (by omega)) ?_
   refine l_assign rfl rfl rfl (l_nil ?_)
   refine e_againk (i := (i, vo, xs)) (i + 1, v10_3, xs ++ [(va, askR l)]) ?_ ?_ (.cons rfl .nil) ?_
   ·first | omega | (simp; omega)
   ·refine ⟨(St.front1 (sep_put (l := [_]) (τ := (xs ++ [(va, askR l)]).map (fun p : Value × List Int => As.ri 3 .i64 p.1 p.2)) (by rw [List.map_append]; exact List.perm_append_comm) (hw10.cast (by rw [hka]; rfl)))).cast (by simp only [List.map_append]; rfl), by omega, by omega, ?_⟩
    rw [List.map_append, List.take_add_one, hlj, List.map_append, hxs]
    rfl
   ·exact (.cons rfl (by first | rfl | (refine congrArg (Value.int _) ?_; omega)) (.cons rfl (by first | rfl | (refine congrArg (Value.int _) ?_; omega)) .nil))
 ·skip
  refine c_exit ?_
  refine e_then_exit ?_
  refine e_then_exit ?_
  refine e_blk_exit ?_
  refine e_then ?_
  refine c_keep [3] (.cons rfl .nil) ?_
  refine c_seq (c_region (l_move rfl rfl rfl (l_assign rfl rfl rfl (l_nil (e_then ?_)))))
  refine c_keep [2] (.cons rfl .nil) ?_
  refine c_ret ?_
  refine e_done1 Try.results8 rfl ?_
  refine ⟨_, rfl, ?_⟩
  exact ⟨vo, xs, rfl, by rw [hxs]; unfold asksF; rw [List.take_eq_take_iff.2 (show min i ls.length = min 16 ls.length by omega)], hw1.grows⟩
end Go.Proofs.Ytgfkagaacdblbaa.W
