/- walks of the document's cache -/
import Derived.Test.YtggdkplphfofkaaGreatCk
set_option linter.unusedVariables false
set_option linter.unusedSimpArgs false
set_option maxRecDepth 10000
namespace Go.Proofs.YtggdkplphfofkaaGreat.W
open Go.Vc Go.RowKit
def refC (F : List Bool) : List Value := F.map fun b => .int .i64 (if b = true then 1 else 0)
theorem refC_at {F : List Bool} {t : Nat} (h : t < F.length) : (refC F)[t]? = some (.int .i64 (if F.getD t false = true then 1 else 0)) := by
 simp [refC, List.getD, h]
theorem refC_len (F : List Bool) : (refC F).length = F.length := by simp [refC]
theorem refC_set (F : List Bool) (t : Nat) : refC (F.set t true) = (refC F).set t (.int .i64 1) := by simp [refC, List.map_set]
def setQ (F : List Bool) (q : Int) : List Bool := if inQ q then F.set ((q + 342) / 16).toNat true else F
def warmF (F : List Bool) (l : List Int) : List Bool := l.foldl setQ F
theorem setQ_len (F : List Bool) (q : Int) : (setQ F q).length = F.length := by unfold setQ; split <;> simp
theorem warmF_len : ∀ (l : List Int) (F : List Bool), (warmF F l).length = F.length
 | [], F => rfl
 | q :: l, F => by
  show (warmF (setQ F q) l).length = _
  rw [warmF_len l, setQ_len]
theorem warmF_snoc (F : List Bool) (l : List Int) (q : Int) : warmF F (l ++ [q]) = setQ (warmF F l) q := by unfold warmF; rw [List.foldl_append]; rfl
theorem setQ_at {F : List Bool} (hF : F.length = 41) (q : Int) (t : Nat) (ht : t < 41) : (setQ F q).getD t false = (decide (inQ q ∧ t = ((q + 342) / 16).toNat) || F.getD t false) := by
 unfold setQ
 split
 ·rename_i hq
  by_cases e : t = ((q + 342) / 16).toNat
  ·subst e
   simp [List.getD, hF, ht, hq]
  ·rw [decide_eq_false (fun h => e h.2), Bool.false_or]
   simp only [List.getD_eq_getElem?_getD]
   rw [List.getElem?_set_ne (by omega)]
 ·rename_i hq
  rw [decide_eq_false (fun h => hq h.1), Bool.false_or]
def Tw (L : Cac) (F : List Bool) : Prop := L.length = 41 ∧ F.length = 41 ∧ ∀ t, t < 41 → hasP L t = F.getD t false
theorem Tw.q {L L' : Cac} {F : List Bool} {q : Int} (h : Tw L F) (k : CacQ L q L') : Tw L' (setQ F q) :=
 ⟨by rw [k.len]; exact h.1, by rw [setQ_len]; exact h.2.1, fun t ht => by rw [k.has, setQ_at h.2.1 q t ht, h.2.2 t ht]⟩
theorem Tw.l {L L' : Cac} {F : List Bool} {l : List Int} (h : Tw L F) (k : CacL L l L') : Tw L' (warmF F l) := by
 induction k with
 | nil => exact h
 | snoc _ k ih => rw [warmF_snoc]; exact ih.q k
theorem Tw.held {L : Cac} {F : List Bool} (h : Tw L F) : heldN L 41 = heldF (fun t => F.getD t false) 41 := heldN_eq 41 fun t ht => h.2.2 t ht
theorem heldF_bd (f : Nat → Bool) : ∀ k, k ≤ 41 → 0 ≤ heldF f k ∧ heldF f k ≤ 16 * k
 | 0, _ => by simp [heldF]
 | k + 1, h => by
  have ih := heldF_bd f k (by omega)
  have hf := first_len k (by omega)
  unfold heldF
  split <;> omega
theorem setAt_of : ∀ {cs : List Value} {o : Nat} (h : o < cs.length) (x : Value), SetAt cs o x (cs.set o x)
 | c :: cs, 0, _, x => .zero
 | c :: cs, o + 1, h, x => .succ (setAt_of (cs := cs) (o := o) (by simpa using h) x)
theorem TimesR (rb : Nat) (F : List Bool) (hF : F.length = 41) (s : Int) (w : World) (hb : (As.blk rb 29 (refC F)).ok w) :
  CallsV P 8 [.pointer (some ⟨rb, 0, none⟩), .int .i64 s] w fun r w' => r = .int .i64 (if (0 ≤ s ∧ s < 41) ∧ F.getD s.toNat false = true then 1 else 0) ∧ w = w' := by
 refine enterW Tryz.func8 rfl Tryz.ntmps8 rfl ?_
 refine c_seq (c_region (l_assign rfl rfl rfl (l_nil (e_then ?_))))
 refine c_keep [0, 1] (.cons rfl (.cons rfl .nil)) ?_
 refine c_seq (c_seq (c_region (l_move rfl rfl rfl ?_)))
 refine l_lss rfl rfl rfl rfl ?_
 refine l_move rfl rfl rfl ?_
 apply l_or 2 [0, 1] rfl rfl (.cons rfl (.cons rfl (.cons rfl .nil))) rfl rfl (fun _ => rfl) rfl rfl rfl
 ·intro hg1_3
  refine l_move rfl rfl rfl ?_
  refine l_geq rfl rfl rfl rfl ?_
  refine l_nil ?_
  exact e_stays rfl (.cons rfl (congrArg Value.bool (decide_eq_false hg1_3).symm) (.cons rfl rfl (.cons rfl rfl .nil)))
 refine l_nil (e_then ?_)
 refine c_keep [0, 1, 10] (.cons rfl (.cons rfl (.cons rfl .nil))) ?_
 first | refine c_cond rfl (fun hc0 => ?_) (fun hc0 => ?_) | refine c_condb rfl (fun hc0 => ?_) (fun hc0 => ?_)
 ·skip
  refine c_seq (c_region (l_assign rfl rfl rfl (l_nil (e_then ?_))))
  refine c_keep [4] (.cons rfl .nil) ?_
  refine c_ret ?_
  refine e_then_ret ?_
  refine e_done1 Tryz.results8 rfl ?_
  refine ⟨_, rfl, ?_⟩
  exact ⟨by rw [if_neg (fun h => by omega)], rfl⟩
 ·skip
  refine c_skip (e_then ?_)
  refine c_keep [0, 1] (.cons rfl (.cons rfl .nil)) ?_
  refine c_seq (c_region (l_move rfl rfl rfl (l_move rfl rfl rfl (l_nilCheck rfl rfl rfl (l_field fo29_0 rfl rfl rfl ?_)))))
  refine l_turn (s := 12) (v' := .int .i64 ((s.toNat : Nat) : Int)) rfl (congrArg (Value.int .i64) (by omega)) ?_
  refine l_indexAn (j := s.toNat) (n := 1) rfl rfl Tryz.underlying27 tz3 rfl rfl rfl (by omega) ?_
  rw [Nat.mul_one]
  refine l_load_blk (blk_st hb) mem0 rfl rfl Tryz.underlying3 rfl rfl (refC_at (by omega)) ?_
  refine l_assign rfl rfl rfl (l_nil (e_then ?_))
  refine c_keep [4] (.cons rfl .nil) ?_
  refine c_ret ?_
  refine e_done1 Tryz.results8 rfl ?_
  refine ⟨_, rfl, ?_⟩
  refine ⟨congrArg (Value.int .i64) ?_, rfl⟩
  by_cases h : F.getD s.toNat false = true
  ·rw [if_pos h, if_pos ⟨by omega, h⟩]
  ·rw [if_neg h, if_neg (fun h2 => h h2.2)]
theorem HeldR (rb : Nat) (F : List Bool) (hF : F.length = 41) (w : World) (hb : (As.blk rb 29 (refC F)).ok w) :
  CallsV P 11 [.pointer (some ⟨rb, 0, none⟩)] w fun r w' => r = .int .i64 (heldF (fun t => F.getD t false) 41) ∧ w = w' := by
 refine enterW Tryz.func11 rfl Tryz.ntmps11 rfl ?_
 refine c_seq (c_region (l_assign rfl rfl rfl (l_nil (e_then ?_))))
 refine c_keep [0] (.cons rfl .nil) ?_
 refine c_seq (c_region (l_assign rfl rfl rfl (l_nil (e_then (c_seq ?_)))))
 refine c_seq (c_region (l_assign rfl rfl rfl (l_nil (e_then (c_block ?_)))))
 refine c_loopk (ι := Nat) (fun (s : Nat) => 41 - s) (fun (s : Nat) (w' : World) => w = w' ∧ s ≤ 41) (fun (s : Nat) => [(3, .int .i64 (heldF (fun t => F.getD t false) s)), (4, .int .i64 (s : Int))]) [0] (0) ?_ (.cons rfl .nil) ?_ ?_
 ·exact ⟨rfl, by omega⟩
 ·exact (.cons rfl (by first | rfl | (refine congrArg (Value.int _) ?_; omega)) (.cons rfl (by first | rfl | (refine congrArg (Value.int _) ?_; omega)) .nil))
 rintro s _ ⟨rfl, hs⟩
 show RunC P _ _ _ (_ :: _) _
 refine c_seq (c_seq (c_region (l_move rfl rfl rfl ?_)))
 refine l_lss rfl rfl rfl rfl ?_
 refine l_nil (e_then ?_)
 refine c_keep [0, 3, 4, 9] (.cons rfl (.cons rfl (.cons rfl (.cons rfl .nil)))) ?_
 first | refine c_cond rfl (fun hc0 => ?_) (fun hc0 => ?_) | refine c_condb rfl (fun hc0 => ?_) (fun hc0 => ?_)
 ·skip
  refine c_skip (e_then ?_)
  refine c_keep [0, 3, 4] (.cons rfl (.cons rfl (.cons rfl .nil))) ?_
  refine c_seq (c_block (c_seq (c_region ?_)))
  have hbn : 0 ≤ heldF (fun t => F.getD t false) s ∧ heldF (fun t => F.getD t false) s ≤ 16 * s := heldF_bd _ s (by omega)
  have hfl := first_len s (by omega)
  refine l_move rfl rfl rfl (l_move rfl rfl rfl (l_nilCheck rfl rfl rfl (l_field fo29_0 rfl rfl rfl ?_)))
  refine l_turn (s := 13) (v' := .int .i64 ((s : Nat) : Int)) rfl (congrArg (Value.int .i64) (by omega)) ?_
  refine l_indexAn (j := s) (n := 1) rfl rfl Tryz.underlying27 tz3 rfl rfl rfl (by omega) ?_
  rw [Nat.mul_one]
  refine l_load_blk (blk_st hb) mem0 rfl rfl Tryz.underlying3 rfl rfl (refC_at (by omega)) ?_
  refine l_gtr rfl rfl rfl rfl ?_
  refine l_nil (e_then ?_)
  refine c_keep [0, 3, 4, 18] (.cons rfl (.cons rfl (.cons rfl (.cons rfl .nil)))) ?_
  first | refine c_cond rfl (fun hc1 => ?_) (fun hc1 => ?_) | refine c_condb rfl (fun hc1 => ?_) (fun hc1 => ?_)
  ·skip
   refine c_seq (c_region (l_move rfl rfl rfl ?_))
   refine l_callp rfl rfl Tryz.func23 rfl rfl (.cons rfl .nil) (firstR (s : Int) (by omega) _) ?_
   refine l_move rfl rfl rfl (l_extract rfl rfl rfl rfl (l_extract rfl rfl rfl rfl (l_extract rfl rfl rfl rfl (l_assign rfl rfl rfl (l_assign rfl rfl rfl ?_)))))
   refine l_assign rfl rfl rfl (l_nil (e_then ?_))
   refine c_keep [0, 3, 4, 6] (.cons rfl (.cons rfl (.cons rfl (.cons rfl .nil)))) ?_
   refine c_region (l_move rfl rfl rfl (l_move rfl rfl rfl ?_))
   refine l_add rfl rfl rfl rfl (w_i64 (by omega)) ?_
   refine l_assign rfl rfl rfl (l_nil ?_)
   refine e_blk ?_
   refine e_then ?_
   refine c_keep [0, 3, 4] (.cons rfl (.cons rfl (.cons rfl .nil))) ?_
   refine c_region (l_move rfl rfl rfl ?_)
   refine l_add rfl rfl rfl rfl (w_i64 (by omega)) ?_
   refine l_assign rfl rfl rfl (l_nil ?_)
   have hft : F.getD s false = true := by
    by_cases h : F.getD s false = true
    ·exact h
    ·rw [if_neg h] at hc1; omega
   have hsn : heldF (fun t => F.getD t false) (s + 1) = heldF (fun t => F.getD t false) s + (firstS (s : Int)).2.1 := by
    show _ + _ = _
    rw [if_pos hft]
   refine e_againk (i := (s)) (s + 1) ?_ ?_ (.cons rfl .nil) ?_
   ·first | omega | (simp; omega)
   ·exact ⟨rfl, by omega⟩
   ·exact (.cons rfl (by rw [hsn]) (.cons rfl (by first | rfl | (refine congrArg (Value.int _) ?_; omega)) .nil))
  ·skip
   refine c_skip ?_
   refine e_blk ?_
   refine e_then ?_
   refine c_keep [0, 3, 4] (.cons rfl (.cons rfl (.cons rfl .nil))) ?_
   refine c_region (l_move rfl rfl rfl ?_)
   refine l_add rfl rfl rfl rfl (w_i64 (by omega)) ?_
   refine l_assign rfl rfl rfl (l_nil ?_)
   have hft : ¬ F.getD s false = true := fun h => by rw [if_pos h] at hc1; omega
   have hsn : heldF (fun t => F.getD t false) (s + 1) = heldF (fun t => F.getD t false) s := by
    show _ + _ = _
    rw [if_neg hft]
    omega
   refine e_againk (i := (s)) (s + 1) ?_ ?_ (.cons rfl .nil) ?_
   ·first | omega | (simp; omega)
   ·exact ⟨rfl, by omega⟩
   ·exact (.cons rfl (by rw [hsn]) (.cons rfl (by first | rfl | (refine congrArg (Value.int _) ?_; omega)) .nil))
 ·skip
  refine c_exit ?_
  refine e_then_exit ?_
  refine e_then_exit ?_
  refine e_blk_exit ?_
  refine e_then ?_
  refine c_keep [3] (.cons rfl .nil) ?_
  refine c_seq (c_region (l_move rfl rfl rfl (l_assign rfl rfl rfl (l_nil (e_then ?_)))))
  refine c_keep [2] (.cons rfl .nil) ?_
  refine c_ret ?_
  refine e_done1 Tryz.results11 rfl ?_
  refine ⟨_, rfl, ?_⟩
  obtain rfl : s = 41 := by omega
  exact ⟨rfl, rfl⟩
theorem EntryR (rb : Nat) (F : List Bool) (hF : F.length = 41) (q : Int) (hq : -9223372036854775808 ≤ q ∧ q ≤ 9223372036854775807) (w : World) (hS : Sep w.heap.size (fps [As.blk rb 29 (refC F)]) w [As.blk rb 29 (refC F)]) :
  CallsV P 15 [.pointer (some ⟨rb, 0, none⟩), .int .i64 q] w fun r w' => r = .tuple #[wideV (entS q).1, .int .i64 (entS q).2.1, .int .i64 (entS q).2.2] ∧ Trans w w' [As.blk rb 29 (refC F)] [As.blk rb 29 (refC (setQ F q))] := by
 refine enterW Tryz.func15 rfl Tryz.ntmps15 rfl ?_
 have hw0 : St w w.heap.size (fps [As.blk rb 29 (refC F)]) [As.blk rb 29 (refC F)] w := St.startS hS
 refine c_seq (c_region ?_)
 refine l_alloc hw0 ta67 rfl rfl (fun b0_0 w1 hw1 => ?_)
 try clear hw0
 refine l_assign rfl rfl rfl (l_assign rfl rfl rfl (l_nil (e_then ?_)))
 refine c_keep [0, 1, 4] (.cons rfl (.cons rfl (.cons rfl .nil))) ?_
 refine c_seq (c_region (l_move rfl rfl rfl ?_))
 refine l_callp rfl rfl Tryz.func26 rfl rfl (.cons rfl .nil) (whereR q hq _) ?_
 refine l_move rfl rfl rfl (l_extract rfl rfl rfl rfl (l_extract rfl rfl rfl rfl (l_extract rfl rfl rfl rfl (l_assign rfl rfl rfl (l_assign rfl rfl rfl ?_)))))
 refine l_assign rfl rfl rfl (l_nil (e_then ?_))
 refine c_keep [0, 1, 4, 7, 9] (.cons rfl (.cons rfl (.cons rfl (.cons rfl (.cons rfl .nil))))) ?_
 refine c_seq (c_seq (c_region (l_move rfl rfl rfl ?_)))
 refine l_neq rfl rfl rfl rfl ?_
 refine l_nil (e_then ?_)
 refine c_keep [0, 1, 4, 7, 9, 17] (.cons rfl (.cons rfl (.cons rfl (.cons rfl (.cons rfl (.cons rfl .nil)))))) ?_
 first | refine c_cond rfl (fun hc0 => ?_) (fun hc0 => ?_) | refine c_condb rfl (fun hc0 => ?_) (fun hc0 => ?_)
 ·skip
  have hnq : ¬ inQ q := fun h => hc0 (by rw [where_e, if_pos h])
  have hbad : q < -342 ∨ 308 < q := by unfold inQ at hnq; omega
  have ewe : whereS q = (0, 0, 60) := if_pos hbad
  have ene : entS q = (0, 0, 60) := if_pos hbad
  refine c_seq (c_region ?_)
  refine l_buildS rfl rfl pl67 ta67 .nil ?_
  refine l_move rfl rfl rfl ?_
  refine l_store_blks hw1 .head (.zero (.zero .nil)) rfl tz67 rfl rfl (by first | (simp [Value.oneCell']; done) | (intro u hu; simp only [List.mem_cons, List.not_mem_nil, or_false] at hu; rcases hu with rfl | rfl <;> first | rfl | assumption)) (fun w2 hw2 => ?_)
  try clear hw1
  refine l_assign rfl rfl rfl (l_assign rfl rfl rfl (l_nil (e_then ?_)))
  refine c_keep [4, 5, 6] (.cons rfl (.cons rfl (.cons rfl .nil))) ?_
  refine c_ret ?_
  refine e_then_ret ?_
  refine e_doneN Tryz.results15 (.cell rfl (load_agg_run hw2 mem0 Tryz.underlying67 rfl tz67 (.take (.take .nil))) (.tmp rfl (.tmp rfl .nil))) rfl ?_
  refine ⟨_, rfl, ?_⟩
  have hw3 := St.front1 hw2
  try clear hw2
  have hw4 := St.del (.tail .head) hw3
  try clear hw3
  refine ⟨?_, ?_⟩
  ·rw [ene, ewe]
   all_goals rfl
  ·have e : setQ F q = F := if_neg hnq
   rw [e]
   exact hw4.transS
 ·skip
  have hiq : inQ q := by
   by_cases h : inQ q
   ·exact h
   ·exact absurd (by rw [where_e, if_neg h]) (show ¬ (whereS q).2.2 = 60 by omega)
  have hin := hiq
  unfold inQ at hin
  have ewe : whereS q = ((q + 342) / 16, (q + 342) % 16, 0) := if_neg (by omega)
  refine c_skip (e_then ?_)
  refine c_keep [0, 1, 4, 7] (.cons rfl (.cons rfl (.cons rfl (.cons rfl .nil)))) ?_
  refine c_seq (c_region (l_move rfl rfl rfl (l_move rfl rfl rfl (l_nilCheck rfl rfl rfl (l_field fo29_0 rfl rfl rfl ?_)))))
  refine l_turn (s := 21) (v' := .int .i64 ((((q + 342) / 16).toNat : Nat) : Int)) rfl (congrArg (Value.int .i64) (by rw [ewe]; dsimp only; omega)) ?_
  refine l_indexAn (j := ((q + 342) / 16).toNat) (n := 1) rfl rfl Tryz.underlying27 tz3 rfl rfl rfl (by omega) ?_
  rw [Nat.mul_one]
  refine l_store_blk hw1 (by repeat (first | exact .head | apply Upd.tail)) (setAt_of (by rw [refC_len]; omega) _) rfl tz3 rfl rfl rfl (fun w5 hw5 => ?_)
  refine l_nil (e_then ?_)
  refine c_keep [1, 4] (.cons rfl (.cons rfl .nil)) ?_
  refine c_seq (c_region (l_move rfl rfl rfl ?_))
  refine l_call rfl rfl Tryz.func27 rfl rfl (.cons rfl .nil) (entryR q hq w5) ?_
  rintro _ w6 ⟨rfl, hG⟩
  have hw6 := hG _ _ _ _ hw5
  try clear hG hw5
  simp only [List.cons_append, List.nil_append] at hw6
  refine l_extract rfl rfl rfl rfl (l_extract rfl rfl rfl rfl (l_extract rfl rfl rfl rfl ?_))
  refine l_store_blks hw6 .head (.zero (.zero .nil)) rfl tz67 rfl rfl (by first | (simp [Value.oneCell']; done) | (intro u hu; simp only [List.mem_cons, List.not_mem_nil, or_false] at hu; rcases hu with rfl | rfl <;> first | rfl | assumption)) (fun w7 hw7 => ?_)
  try clear hw6
  refine l_assign rfl rfl rfl (l_assign rfl rfl rfl (l_nil (e_then ?_)))
  refine c_keep [4, 5, 6] (.cons rfl (.cons rfl (.cons rfl .nil))) ?_
  refine c_ret ?_
  refine e_doneN Tryz.results15 (.cell rfl (load_agg_run hw7 mem0 Tryz.underlying67 rfl tz67 (.take (.take .nil))) (.tmp rfl (.tmp rfl .nil))) rfl ?_
  refine ⟨_, rfl, ?_⟩
  have hw8 := St.front1 hw7
  try clear hw7
  have hw9 := St.del (.tail .head) hw8
  try clear hw8
  refine ⟨rfl, ?_⟩
  have e : setQ F q = F.set ((q + 342) / 16).toNat true := if_pos hiq
  rw [e, refC_set]
  exact hw9.transS
theorem WarmR (rb : Nat) (F : List Bool) (hF : F.length = 41) (v : Value) (l : List Int) (hl : UI l) (hll : l.length ≤ 1099511627776) (w : World) (hS : Sep w.heap.size (fps [As.blk rb 29 (refC F)]) w [As.blk rb 29 (refC F)]) (hv : ∀ w1 : World, (∀ k, k < w.heap.size → ¬ fps [As.blk rb 29 (refC F)] k → w1.heap[k]? = w.heap[k]?) → IV w1 v (ints .i64 l)) :
  CallsV P 18 [.pointer (some ⟨rb, 0, none⟩), v] w fun r w' => r = .int .i64 (warmE l) ∧ Trans w w' [As.blk rb 29 (refC F)] [As.blk rb 29 (refC (if warmE l = 0 then warmF F l else F))] := by
 refine enterW Tryz.func18 rfl Tryz.ntmps18 rfl ?_
 have hw0 : St w w.heap.size (fps [As.blk rb 29 (refC F)]) [As.blk rb 29 (refC F)] w := St.startS hS
 refine c_seq (c_region (l_assign rfl rfl rfl (l_nil (e_then ?_))))
 refine c_keep [0, 1] (.cons rfl (.cons rfl .nil)) ?_
 refine c_seq (c_seq (c_region (l_assign rfl rfl rfl (l_nil (e_then ?_)))))
 refine c_block ?_
 refine c_loopk (ι := Nat) (fun (i : Nat) => l.length - i) (fun (i : Nat) (w' : World) => St w w.heap.size (fps [As.blk rb 29 (refC F)]) ([As.blk rb 29 (refC F)]) w' ∧ i ≤ l.length ∧ ∀ j, j < i → inQ (l.getD j 0)) (fun (i : Nat) => [(5, .int .i64 (i : Int))]) [0, 1] (0) ?_ (.cons rfl (.cons rfl .nil)) ?_ ?_
 ·exact ⟨hw0, by omega, fun j h => by omega⟩
 ·exact (.cons rfl (by first | rfl | (refine congrArg (Value.int _) ?_; omega)) .nil)
 rintro i w1 ⟨hw1, hi, hok⟩
 show RunC P _ _ _ (_ :: _) _
 refine c_seq (c_seq (c_region (l_move rfl rfl rfl (l_move rfl rfl rfl ?_))))
 refine v_leni rfl rfl Tryz.underlying32 rfl (by first | exact hw1.ibl mem0 | exact hw1.ikM hv | assumption) ?_
 refine l_lss rfl rfl rfl rfl ?_
 refine l_nil (e_then ?_)
 refine c_keep [0, 1, 5, 16] (.cons rfl (.cons rfl (.cons rfl (.cons rfl .nil)))) ?_
 first | refine c_cond rfl (fun hc0 => ?_) (fun hc0 => ?_) | refine c_condb rfl (fun hc0 => ?_) (fun hc0 => ?_)
 ·skip
  refine c_skip (e_then ?_)
  refine c_keep [0, 1, 5] (.cons rfl (.cons rfl (.cons rfl .nil))) ?_
  refine c_seq (c_block (c_seq (c_region ?_)))
  have hi1 : i < l.length := by omega
  have hbq := hl (l.getD i 0) (by rw [List.getD_eq_getElem?_getD, List.getElem?_eq_getElem hi1]; exact List.getElem_mem hi1)
  refine l_move rfl rfl rfl (l_move rfl rfl rfl ?_)
  refine v_getr (j := i) rfl rfl rfl rfl Tryz.underlying32 tz3 Tryz.underlying3 rfl rfl (by first | exact hw1.ibl mem0 | exact hw1.ikM hv | assumption) (by assumption) rfl (by omega) (by first | omega | (simp; done) | (simp; omega)) (fun hb4_2 => ?_)
  refine l_callp rfl rfl Tryz.func26 rfl rfl (.cons rfl .nil) (whereR (l.getD i 0) (by omega) _) ?_
  refine l_move rfl rfl rfl (l_extract rfl rfl rfl rfl (l_extract rfl rfl rfl rfl (l_extract rfl rfl rfl rfl (l_assign rfl rfl rfl (l_assign rfl rfl rfl ?_)))))
  refine l_assign rfl rfl rfl (l_nil (e_then ?_))
  refine c_keep [0, 1, 5, 8] (.cons rfl (.cons rfl (.cons rfl (.cons rfl .nil)))) ?_
  refine c_seq (c_region (l_move rfl rfl rfl ?_))
  refine l_neq rfl rfl rfl rfl ?_
  refine l_nil (e_then ?_)
  refine c_keep [0, 1, 5, 8, 29] (.cons rfl (.cons rfl (.cons rfl (.cons rfl (.cons rfl .nil))))) ?_
  first | refine c_cond rfl (fun hc1 => ?_) (fun hc1 => ?_) | refine c_condb rfl (fun hc1 => ?_) (fun hc1 => ?_)
  ·skip
   have hnin : ¬ inQ (l.getD i 0) := fun h => hc1 (by rw [where_e, if_pos h])
   have hwe : warmE l = 60 := by
    unfold warmE
    rw [if_neg]
    intro h
    exact hnin (h _ (by rw [List.getD_eq_getElem?_getD, List.getElem?_eq_getElem hi1]; exact List.getElem_mem hi1))
   refine c_seq (c_region (l_move rfl rfl rfl (l_assign rfl rfl rfl (l_nil (e_then ?_)))))
   refine c_keep [4] (.cons rfl .nil) ?_
   refine c_ret ?_
   refine e_blk_ret ?_
   refine e_then_ret ?_
   refine e_then_ret ?_
   refine e_blk_ret ?_
   refine e_then_ret ?_
   refine e_done1 Tryz.results18 rfl ?_
   refine ⟨_, rfl, ?_⟩
   refine ⟨?_, ?_⟩
   ·rw [hwe, where_e, if_neg hnin]
    all_goals rfl
   ·rw [hwe]
    exact hw1.transS
  ·skip
   refine c_skip ?_
   refine e_blk ?_
   refine e_then ?_
   refine c_keep [0, 1, 5] (.cons rfl (.cons rfl (.cons rfl .nil))) ?_
   refine c_region (l_move rfl rfl rfl ?_)
   refine l_add rfl rfl rfl rfl (w_i64 (by omega)) ?_
   refine l_assign rfl rfl rfl (l_nil ?_)
   refine e_againk (i := (i)) (i + 1) ?_ ?_ (.cons rfl (.cons rfl .nil)) ?_
   ·first | omega | (simp; omega)
   ·exact ⟨hw1, by omega, fun j h => by
     by_cases e : j = i
     ·subst e
      have hc : (whereS (l.getD j 0)).2.2 = 0 := by omega
      rw [where_e] at hc
      split at hc
      ·assumption
      ·omega
     ·exact hok j (by omega)⟩
   ·exact (.cons rfl (by first | rfl | (refine congrArg (Value.int _) ?_; omega)) .nil)
 ·skip
  refine c_exit ?_
  refine e_then_exit ?_
  refine e_then_exit ?_
  refine e_blk_exit ?_
  refine e_then ?_
  refine c_keep [0, 1] (.cons rfl (.cons rfl .nil)) ?_
  refine c_seq (c_seq (c_region ?_))
  have hall : ∀ q ∈ l, inQ q := fun q hq => by
   obtain ⟨j, hj, rfl⟩ := List.mem_iff_getElem.1 hq
   have := hok j (by omega)
   rwa [show l.getD j 0 = l[j] from by simp [List.getD, hj]] at this
  have hwe : warmE l = 0 := if_pos hall
  refine l_assign rfl rfl rfl (l_nil (e_then (c_block ?_)))
  refine c_loopk (ι := Nat) (fun (i : Nat) => l.length - i) (fun (i : Nat) (w' : World) => St w w.heap.size (fps [As.blk rb 29 (refC F)]) ([As.blk rb 29 (refC (warmF F (l.take i)))]) w' ∧ i ≤ l.length) (fun (i : Nat) => [(9, .int .i64 (i : Int))]) [0, 1] (0) ?_ (.cons rfl (.cons rfl .nil)) ?_ ?_
  ·exact ⟨hw1, by omega⟩
  ·exact (.cons rfl (by first | rfl | (refine congrArg (Value.int _) ?_; omega)) .nil)
  rintro i w2 ⟨hw2, hi⟩
  show RunC P _ _ _ (_ :: _) _
  refine c_seq (c_seq (c_region (l_move rfl rfl rfl (l_move rfl rfl rfl ?_))))
  refine v_leni rfl rfl Tryz.underlying32 rfl (by first | exact hw2.ibl mem0 | exact hw2.ikM hv | assumption) ?_
  refine l_lss rfl rfl rfl rfl ?_
  refine l_nil (e_then ?_)
  refine c_keep [0, 1, 9, 34] (.cons rfl (.cons rfl (.cons rfl (.cons rfl .nil)))) ?_
  first | refine c_cond rfl (fun hc2 => ?_) (fun hc2 => ?_) | refine c_condb rfl (fun hc2 => ?_) (fun hc2 => ?_)
  ·skip
   refine c_skip (e_then ?_)
   refine c_keep [0, 1, 9] (.cons rfl (.cons rfl (.cons rfl .nil))) ?_
   refine c_seq (c_block (c_seq (c_region ?_)))
   have hi1 : i < l.length := by omega
   have hmem : l.getD i 0 ∈ l := by rw [List.getD_eq_getElem?_getD, List.getElem?_eq_getElem hi1]; exact List.getElem_mem hi1
   have hbq := hl _ hmem
   have hiq := hall _ hmem
   have hin := hiq
   unfold inQ at hin
   have hFl := (warmF_len (l.take i) F).trans hF
   have ewe : whereS (l.getD i 0) = ((l.getD i 0 + 342) / 16, (l.getD i 0 + 342) % 16, 0) := if_neg (by omega)
   refine l_move rfl rfl rfl (l_move rfl rfl rfl ?_)
   refine v_getr (j := i) rfl rfl rfl rfl Tryz.underlying32 tz3 Tryz.underlying3 rfl rfl (by first | exact hw2.ibl mem0 | exact hw2.ikM hv | assumption) (by assumption) rfl (by omega) (by first | omega | (simp; done) | (simp; omega)) (fun hb10_2 => ?_)
   refine l_callp rfl rfl Tryz.func26 rfl rfl (.cons rfl .nil) (whereR (l.getD i 0) (by omega) _) ?_
   refine l_move rfl rfl rfl (l_extract rfl rfl rfl rfl (l_extract rfl rfl rfl rfl (l_extract rfl rfl rfl rfl (l_assign rfl rfl rfl (l_assign rfl rfl rfl ?_)))))
   refine l_assign rfl rfl rfl (l_nil (e_then ?_))
   refine c_keep [0, 1, 9, 10] (.cons rfl (.cons rfl (.cons rfl (.cons rfl .nil)))) ?_
   refine c_region (l_move rfl rfl rfl (l_move rfl rfl rfl (l_nilCheck rfl rfl rfl (l_field fo29_0 rfl rfl rfl ?_))))
   refine l_turn (s := 47) (v' := .int .i64 ((((l.getD i 0 + 342) / 16).toNat : Nat) : Int)) rfl (congrArg (Value.int .i64) (by rw [ewe]; dsimp only; omega)) ?_
   refine l_indexAn (j := ((l.getD i 0 + 342) / 16).toNat) (n := 1) rfl rfl Tryz.underlying27 tz3 rfl rfl rfl (by omega) ?_
   rw [Nat.mul_one]
   refine l_store_blk hw2 (by repeat (first | exact .head | apply Upd.tail)) (setAt_of (by rw [refC_len]; omega) _) rfl tz3 rfl rfl rfl (fun w3 hw3 => ?_)
   refine l_nil ?_
   refine e_blk ?_
   refine e_then ?_
   refine c_keep [0, 1, 9] (.cons rfl (.cons rfl (.cons rfl .nil))) ?_
   refine c_region (l_move rfl rfl rfl ?_)
   refine l_add rfl rfl rfl rfl (w_i64 (by omega)) ?_
   refine l_assign rfl rfl rfl (l_nil ?_)
   refine e_againk (i := (i)) (i + 1) ?_ ?_ (.cons rfl (.cons rfl .nil)) ?_
   ·first | omega | (simp; omega)
   ·refine ⟨hw3.cast ?_, by omega⟩
    rw [take_snoc' hi1, warmF_snoc, show setQ (warmF F (l.take i)) (l.getD i 0) = (warmF F (l.take i)).set ((l.getD i 0 + 342) / 16).toNat true from if_pos hiq, refC_set]
   ·exact (.cons rfl (by first | rfl | (refine congrArg (Value.int _) ?_; omega)) .nil)
  ·skip
   refine c_exit ?_
   refine e_then_exit ?_
   refine e_then_exit ?_
   refine e_blk_exit ?_
   refine e_then ?_
   refine c_keep [] .nil ?_
   refine c_seq (c_region (l_assign rfl rfl rfl (l_nil (e_then ?_))))
   refine c_ret ?_
   refine e_done1 Tryz.results18 rfl ?_
   refine ⟨_, rfl, ?_⟩
   obtain rfl : i = l.length := by omega
   rw [List.take_length] at hw2
   refine ⟨by rw [hwe], ?_⟩
   rw [hwe]
   exact hw2.transS
end Go.Proofs.YtggdkplphfofkaaGreat.W
