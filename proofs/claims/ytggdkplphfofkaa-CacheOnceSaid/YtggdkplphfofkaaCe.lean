/- walks of the laws of the cache -/
import Derived.Test.YtggdkplphfofkaaCd
import Derived.Test.YtggdkplphfofkaaVr
set_option linter.unusedVariables false
set_option linter.unusedSimpArgs false
set_option maxRecDepth 10000
namespace Go.Proofs.Ytggdkplphfofkaa.W
open Go.Vc Go.RowKit

def heldF (f : Nat → Bool) : Nat → Int
  | 0 => 0
  | k + 1 => heldF f k + (if f k = true then (firstS (k : Int)).2.1 else 0)
theorem heldN_eq {L : Cac} {f : Nat → Bool} : ∀ k, (∀ t, t < k → hasP L t = f t) → heldN L k = heldF f k
  | 0, _ => rfl
  | k + 1, h => by
    unfold heldN heldF
    rw [heldN_eq k (fun t ht => h t (by omega)), h k (by omega)]
theorem has0 (t : Nat) : hasP (List.replicate 41 none) t = false := by
  unfold hasP
  split
  · rename_i h
    obtain ⟨hs, h2⟩ := List.getElem?_eq_some_iff.1 h
    rw [List.getElem_replicate] at h2
    cases h2
  · rfl
theorem held0 : heldN (List.replicate 41 none) 41 = 0 := by
  rw [heldN_eq (f := fun _ => false) 41 (fun t _ => has0 t)]
  decide
theorem ent_zero : entS 0 = (170141183460469231731687303715884105728, -127, 0) := by decide +kernel
theorem heldAll : heldF (fun _ => true) 41 = 651 := by decide

theorem numL7 (x : Int) (w : World) :
    CallsV P 10 [.int .i64 x] w fun r w' => r = .int .i64 x ∧ w = w' := by
  refine enterW Try.func10 rfl Try.ntmps10 rfl ?_
  refine c_seq ?_
  refine c_region ?_
  refine l_assign rfl rfl rfl ?_
  refine l_nil ?_
  refine e_then ?_
  refine c_keep [0] (.cons rfl .nil) ?_
  refine c_seq ?_
  refine c_region ?_
  refine l_move rfl rfl rfl ?_
  refine l_assign rfl rfl rfl ?_
  refine l_nil ?_
  refine e_then ?_
  refine c_keep [2] (.cons rfl .nil) ?_
  refine c_ret ?_
  refine e_done1 Try.results10 rfl ?_
  refine ⟨_, rfl, ?_⟩
  exact ⟨rfl, rfl⟩
theorem wakesL7  (w : World) :
    CallsV P 7 [] w fun r w' => r = .bool true ∧ Grow w w' [] := by
  refine enterW Try.func7 rfl Try.ntmps7 rfl ?_
  have hw0 := St.start w
  refine c_seq ?_
  refine c_region ?_
  refine l_assign rfl rfl rfl ?_
  refine l_nil ?_
  refine e_then ?_
  refine c_keep [] .nil ?_
  refine c_seq ?_
  refine c_region ?_
  refine l_call rfl rfl Try.func6 rfl rfl .nil (newC w) ?_
  rintro _ w1 ⟨b, rfl, hG⟩
  have hw1 := hG _ _ _ _ hw0
  try clear hG hw0
  simp only [List.cons_append, List.nil_append] at hw1
  refine l_assign rfl rfl rfl ?_
  refine l_nil ?_
  refine e_then ?_
  refine c_keep [1] (.cons rfl .nil) ?_
  refine c_seq ?_
  refine c_seq ?_
  refine c_region ?_
  refine l_move rfl rfl rfl ?_
  refine l_eqlp (by kernel_rfl) rfl rfl rfl rfl ?_
  refine l_turn (s := 7) (v' := .bool false) rfl (by rfl) ?_
  refine l_move rfl rfl rfl ?_
  refine l_move rfl rfl rfl ?_
  refine l_callp rfl rfl Try.func15 rfl rfl (.cons rfl .nil) (HeldC b (List.replicate 41 none) (List.length_replicate ..) _ (hw1.ok mem0) (hw1.ok mem1)) ?_
  refine l_neq rfl rfl rfl rfl ?_
  refine l_turn (s := 11) (v' := .bool false) rfl (by rw [held0]; rfl) ?_
  refine l_pick_f rfl rfl rfl rfl ?_
  refine l_move rfl rfl rfl ?_
  refine l_move rfl rfl rfl ?_
  refine l_callp rfl rfl Try.func13 rfl rfl (.cons rfl (.cons rfl .nil)) (CompleteC b (List.replicate 41 none) (List.length_replicate ..) 21 _ (hw1.ok mem0) (hw1.ok mem1)) ?_
  refine l_turn (s := 15) (v' := .bool false) rfl (by rw [has0]; rfl) ?_
  refine l_pick_f rfl rfl rfl rfl ?_
  refine l_nil ?_
  refine e_then ?_
  refine c_keep [1, 16] (.cons rfl (.cons rfl .nil)) ?_
  refine c_cond_f rfl rfl ?_
  refine c_skip ?_
  refine e_then ?_
  refine c_keep [1] (.cons rfl .nil) ?_
  refine c_seq ?_
  refine c_region ?_
  refine l_move rfl rfl rfl ?_
  refine l_call rfl rfl Try.func9 rfl rfl (.cons rfl (.cons rfl .nil)) (EntryC b (List.replicate 41 none) (List.length_replicate ..) 0 (by omega) w1 (St.rows (τ := cacW b (List.replicate 41 none)) hw1)) ?_
  rintro _ w2 ⟨L1, rfl, hQ, hX⟩
  have hw2 := hX _ _ _ _ hw1
  simp only [cacW, List.cons_append, List.nil_append] at hw2
  try clear hX hw1
  have hL1 : L1.length = 41 := hQ.len
  have hH : heldN L1 41 = 16 := by
    rw [heldN_eq (f := fun t => decide (inQ 0 ∧ t = ((0 + 342 : Int) / 16).toNat)) 41 (fun t _ => by rw [hQ.has, has0, Bool.or_false])]
    decide
  have hB : hasP L1 (21 : Int).toNat = true := by rw [hQ.has, has0]; decide
  rw [ent_zero]
  refine l_move rfl rfl rfl ?_
  refine l_extract rfl rfl rfl rfl ?_
  refine l_extract rfl rfl rfl rfl ?_
  refine l_extract rfl rfl rfl rfl ?_
  refine l_alloc hw2 ta30 rfl rfl (fun b4_6 w3 hw3 => ?_)
  try clear hw2
  refine l_store_blks hw3 .head (.zero (.zero .nil)) rfl tz30 rfl rfl (by first | (simp [Value.oneCell']; done) | (intro u hu; simp only [List.mem_cons, List.not_mem_nil, or_false] at hu; rcases hu with rfl | rfl <;> first | rfl | assumption)) (fun w4 hw4 => ?_)
  try clear hw3
  refine l_assign rfl rfl rfl ?_
  refine l_assign rfl rfl rfl ?_
  refine l_nil ?_
  refine e_then ?_
  refine c_keep [1, 2, 3, 4] (.cons rfl (.cons rfl (.cons rfl (.cons rfl .nil)))) ?_
  refine c_seq ?_
  refine c_region ?_
  refine l_move rfl rfl rfl ?_
  refine l_callp rfl rfl Try.func10 rfl rfl (.cons rfl .nil) (numL7 _ _) ?_
  refine l_eql rfl rfl rfl rfl ?_
  refine l_turn (s := 25) (v' := .bool true) rfl (by simp) ?_
  refine l_move rfl rfl rfl ?_
  refine l_move rfl rfl rfl ?_
  refine l_eql rfl rfl rfl rfl ?_
  refine l_turn (s := 28) (v' := .bool true) rfl (by simp) ?_
  refine l_pick_t rfl rfl rfl rfl ?_
  refine l_move rfl rfl rfl ?_
  refine l_load_agg hw4 mem0 rfl rfl Try.underlying30 rfl tz30 rfl (.take (.take .nil)) ?_
  refine l_buildS rfl rfl pl30 ta30 (.one rfl rfl (by first | rfl | assumption) .zero .nil) ?_
  refine l_eqlA rfl rfl fl30 rfl rfl (.int rfl rfl (.int rfl rfl .nil)) ?_
  refine l_turn (s := 33) (v' := .bool true) rfl (by simp) ?_
  refine l_pick_t rfl rfl rfl rfl ?_
  refine l_move rfl rfl rfl ?_
  refine l_move rfl rfl rfl ?_
  refine l_callp rfl rfl Try.func15 rfl rfl (.cons rfl .nil) (HeldC b L1 hL1 _ (hw4.ok mem1) (hw4.ok mem2)) ?_
  refine l_eql rfl rfl rfl rfl ?_
  refine l_turn (s := 38) (v' := .bool true) rfl (by rw [hH]; rfl) ?_
  refine l_pick_t rfl rfl rfl rfl ?_
  refine l_move rfl rfl rfl ?_
  refine l_move rfl rfl rfl ?_
  refine l_callp rfl rfl Try.func12 rfl rfl (.cons rfl (.cons rfl .nil)) (BuiltC b L1 hL1 21 _ (hw4.ok mem1) (hw4.ok mem2)) ?_
  refine l_eql rfl rfl rfl rfl ?_
  refine l_turn (s := 43) (v' := .bool true) rfl (by rw [if_pos ⟨by omega, hB⟩]; rfl) ?_
  refine l_pick_t rfl rfl rfl rfl ?_
  refine l_move rfl rfl rfl ?_
  refine l_move rfl rfl rfl ?_
  refine l_callp rfl rfl Try.func13 rfl rfl (.cons rfl (.cons rfl .nil)) (CompleteC b L1 hL1 21 _ (hw4.ok mem1) (hw4.ok mem2)) ?_
  refine l_turn (s := 47) (v' := .bool true) rfl (by rw [decide_eq_true ⟨by omega, hB⟩]) ?_
  refine l_pick_t rfl rfl rfl rfl ?_
  refine l_assign rfl rfl rfl ?_
  refine l_nil ?_
  refine e_then ?_
  refine c_keep [0] (.cons rfl .nil) ?_
  refine c_ret ?_
  refine e_done1 Try.results7 rfl ?_
  refine ⟨_, rfl, ?_⟩
  have hw5 := St.del (.tail (.tail .head)) hw4
  try clear hw4
  have hw6 := St.del (.tail .head) hw5
  try clear hw5
  have hw7 := St.del .head hw6
  try clear hw6
  exact ⟨rfl, hw7.grows⟩

/-- the exponents from the greatest down -/
def dnQ (i : Nat) : List Int := (List.range i).map fun j : Nat => 308 - (j : Int)
theorem dnQ_snoc (i : Nat) : dnQ (i + 1) = dnQ i ++ [308 - (i : Int)] := by simp [dnQ, List.range_succ]
theorem dn_all {L : Cac} (h : CacL (List.replicate 41 none) (dnQ 651) L) (t : Nat) (ht : t < 41) : hasP L t = true := by
  rw [h.has, has0, Bool.or_false, decide_eq_true_eq]
  refine ⟨16 * (t : Int) - 342, List.mem_map.2 ⟨(650 - 16 * (t : Int)).toNat, List.mem_range.2 (by omega), by omega⟩, by unfold inQ; omega, by omega⟩

theorem cacheAllL  (w : World) :
    CallsV P 4 [] w fun r w' => r = .bool true ∧ Grow w w' [] := by
  refine enterW Try.func4 rfl Try.ntmps4 rfl ?_
  have hw0 := St.start w
  refine c_seq ?_
  refine c_region ?_
  refine l_assign rfl rfl rfl ?_
  refine l_nil ?_
  refine e_then ?_
  refine c_keep [] .nil ?_
  refine c_seq ?_
  refine c_region ?_
  refine l_call rfl rfl Try.func6 rfl rfl .nil (newC w) ?_
  rintro _ w1 ⟨b, rfl, hG⟩
  have hw1 := hG _ _ _ _ hw0
  try clear hG hw0
  simp only [List.cons_append, List.nil_append] at hw1
  refine l_assign rfl rfl rfl ?_
  refine l_nil ?_
  refine e_then ?_
  refine c_keep [1] (.cons rfl .nil) ?_
  refine c_seq ?_
  refine c_seq ?_
  refine c_region ?_
  refine l_move rfl rfl rfl ?_
  refine l_eqlp (by kernel_rfl) rfl rfl rfl rfl ?_
  refine l_turn (s := 15) (v' := .bool false) rfl (by rfl) ?_
  refine l_nil ?_
  refine e_then ?_
  refine c_keep [1, 15] (.cons rfl (.cons rfl .nil)) ?_
  refine c_cond_f rfl rfl ?_
  refine c_skip ?_
  refine e_then ?_
  refine c_keep [1] (.cons rfl .nil) ?_
  refine c_seq ?_
  refine c_seq ?_
  refine c_region ?_
  refine l_assign rfl rfl rfl ?_
  refine l_nil ?_
  refine e_then ?_
  refine c_block ?_
  refine c_loopk (ι := Nat × Cac) (fun (z0 : Nat × Cac) => match z0 with | ⟨i, L1⟩ => 651 - i) (fun (z0 : Nat × Cac) (w' : World) => match z0 with | ⟨i, L1⟩ => St w w.heap.size None' (cacW b L1) w' ∧ i ≤ 651 ∧ L1.length = 41 ∧ CacL (List.replicate 41 none) (dnQ i) L1) (fun (z0 : Nat × Cac) => match z0 with | ⟨i, L1⟩ => [(2, .int .i64 (308 - (i : Int)))]) [1] (0, (List.replicate 41 none)) ?_ (.cons rfl .nil) ?_ ?_
  · exact ⟨hw1, by omega, (List.length_replicate ..), .nil⟩
  · exact (.cons rfl (by first | rfl | (refine congrArg (Value.int _) ?_; omega)) .nil)
  rintro ⟨i, L1⟩ w2 ⟨hw2, hi, hL1, hCL⟩
  show RunC P _ _ _ (_ :: _) _
  refine c_seq ?_
  refine c_seq ?_
  refine c_region ?_
  refine l_move rfl rfl rfl ?_
  refine l_geq rfl rfl rfl rfl ?_
  refine l_nil ?_
  refine e_then ?_
  refine c_keep [1, 2, 17] (.cons rfl (.cons rfl (.cons rfl .nil))) ?_
  first | refine c_cond rfl (fun hc1 => ?_) (fun hc1 => ?_) | refine c_condb rfl (fun hc1 => ?_) (fun hc1 => ?_)
  · skip
    refine c_skip ?_
    refine e_then ?_
    refine c_keep [1, 2] (.cons rfl (.cons rfl .nil)) ?_
    refine c_seq ?_
    refine c_block ?_
    refine c_seq ?_
    refine c_region ?_
    refine l_move rfl rfl rfl ?_
    refine l_move rfl rfl rfl ?_
    have hw3 := St.frontL (l := [_]) hw2
    simp only [List.cons_append, List.nil_append] at hw3
    try clear hw2
    have hw4 := St.frontL (l := [_]) hw3
    simp only [List.cons_append, List.nil_append] at hw4
    try clear hw3
    refine l_call rfl rfl Try.func9 rfl rfl (.cons rfl (.cons rfl .nil)) (EntryC b L1 hL1 (308 - (i : Int)) (by omega) w2 (St.rows (τ := cacW b L1) hw4)) ?_
    rintro _ w5 ⟨L2, rfl, hQ, hX⟩
    have hw5 := hX _ _ _ _ hw4
    simp only [cacW, List.cons_append, List.nil_append] at hw5
    try clear hX hw4
    have hL2 : L2.length = 41 := by rw [hQ.len]; exact hL1
    have hin : inQ (308 - (i : Int)) := by unfold inQ; omega
    have hev : (entS (308 - (i : Int))).2.2 = 0 := by unfold entS; rw [if_neg (by omega)]; split <;> rfl
    refine l_move rfl rfl rfl ?_
    refine l_extract rfl rfl rfl rfl ?_
    refine l_extract rfl rfl rfl rfl ?_
    refine l_extract rfl rfl rfl rfl ?_
    refine l_alloc hw5 ta30 rfl rfl (fun b7_7 w6 hw6 => ?_)
    try clear hw5
    refine l_store_blks hw6 .head (.zero (.zero .nil)) rfl tz30 rfl rfl (by first | (simp [Value.oneCell']; done) | (intro u hu; simp only [List.mem_cons, List.not_mem_nil, or_false] at hu; rcases hu with rfl | rfl <;> first | rfl | assumption)) (fun w7 hw7 => ?_)
    try clear hw6
    refine l_assign rfl rfl rfl ?_
    refine l_assign rfl rfl rfl ?_
    refine l_nil ?_
    refine e_then ?_
    refine c_keep [1, 2, 3, 4, 5] (.cons rfl (.cons rfl (.cons rfl (.cons rfl (.cons rfl .nil))))) ?_
    refine c_seq ?_
    refine c_region ?_
    refine l_move rfl rfl rfl ?_
    refine l_call rfl rfl Try.func14 rfl rfl (.cons rfl .nil) (entryR (308 - (i : Int)) (by omega) w7) ?_
    rintro _ w8 ⟨rfl, hG⟩
    have hw8 := hG _ _ _ _ hw7
    try clear hG hw7
    simp only [List.cons_append, List.nil_append] at hw8
    refine l_move rfl rfl rfl ?_
    refine l_extract rfl rfl rfl rfl ?_
    refine l_extract rfl rfl rfl rfl ?_
    refine l_extract rfl rfl rfl rfl ?_
    refine l_alloc hw8 ta30 rfl rfl (fun b8_6 w9 hw9 => ?_)
    try clear hw8
    refine l_store_blks hw9 .head (.zero (.zero .nil)) rfl tz30 rfl rfl (by first | (simp [Value.oneCell']; done) | (intro u hu; simp only [List.mem_cons, List.not_mem_nil, or_false] at hu; rcases hu with rfl | rfl <;> first | rfl | assumption)) (fun w10 hw10 => ?_)
    try clear hw9
    refine l_assign rfl rfl rfl ?_
    refine l_assign rfl rfl rfl ?_
    refine l_nil ?_
    refine e_then ?_
    refine c_keep [1, 2, 3, 4, 5, 6, 7] (.cons rfl (.cons rfl (.cons rfl (.cons rfl (.cons rfl (.cons rfl (.cons rfl .nil))))))) ?_
    refine c_seq ?_
    refine c_region ?_
    refine l_move rfl rfl rfl ?_
    refine l_callp rfl rfl Try.func10 rfl rfl (.cons rfl .nil) (numL7 _ _) ?_
    refine l_neq rfl rfl rfl rfl ?_
    refine l_turn (s := 35) (v' := .bool false) rfl (by rw [hev]; rfl) ?_
    refine l_move rfl rfl rfl ?_
    refine l_load_agg hw10 mem1 rfl rfl Try.underlying30 rfl tz30 rfl (.take (.take .nil)) ?_
    refine l_load_agg hw10 mem0 rfl rfl Try.underlying30 rfl tz30 rfl (.take (.take .nil)) ?_
    refine l_neqA rfl rfl fl30 rfl rfl (.int rfl rfl (.int rfl rfl .nil)) ?_
    refine l_turn (s := 39) (v' := .bool false) rfl (by simp) ?_
    refine l_pick_f rfl rfl rfl rfl ?_
    refine l_move rfl rfl rfl ?_
    refine l_move rfl rfl rfl ?_
    refine l_move rfl rfl rfl ?_
    refine l_neq rfl rfl rfl rfl ?_
    refine l_turn (s := 44) (v' := .bool false) rfl (by simp) ?_
    refine l_pick_f rfl rfl rfl rfl ?_
    refine l_nil ?_
    refine e_then ?_
    refine c_keep [1, 2, 45] (.cons rfl (.cons rfl (.cons rfl .nil))) ?_
    refine c_cond_f rfl rfl ?_
    refine c_skip ?_
    refine e_blk ?_
    refine e_then ?_
    refine c_keep [1, 2] (.cons rfl (.cons rfl .nil)) ?_
    refine c_region ?_
    refine l_move rfl rfl rfl ?_
    refine l_sub rfl rfl rfl rfl (w_i64 (by omega)) ?_
    refine l_assign rfl rfl rfl ?_
    refine l_nil ?_
    have hw11 := St.del (.tail .head) hw10
    try clear hw10
    have hw12 := St.del .head hw11
    try clear hw11
    refine e_againk (i := (i, L1)) (i + 1, L2) ?_ ?_ (.cons rfl .nil) ?_
    · first | omega | (simp; omega)
    · exact ⟨hw12, by omega, hL2, by rw [dnQ_snoc]; exact .snoc hCL hQ⟩
    · exact (.cons rfl (by first | rfl | (refine congrArg (Value.int _) ?_; omega)) .nil)
  · skip
    refine c_exit ?_
    refine e_then_exit ?_
    refine e_then_exit ?_
    refine e_blk_exit ?_
    refine e_then ?_
    refine c_keep [1] (.cons rfl .nil) ?_
    refine c_seq ?_
    refine c_seq ?_
    refine c_region ?_
    obtain rfl : i = 651 := by omega
    have hall := dn_all hCL
    have hH : heldN L1 41 = 651 := by rw [heldN_eq (f := fun _ => true) 41 (fun t ht => hall t ht)]; exact heldAll
    refine l_assign rfl rfl rfl ?_
    refine l_nil ?_
    refine e_then ?_
    refine c_block ?_
    refine c_loopk (ι := Nat) (fun (s : Nat) => 41 - s) (fun (s : Nat) (w' : World) => St w w.heap.size None' (cacW b L1) w' ∧ s ≤ 41) (fun (s : Nat) => [(9, .int .i64 (s : Int))]) [1] (0) ?_ (.cons rfl .nil) ?_ ?_
    · exact ⟨hw2, by omega⟩
    · exact (.cons rfl (by first | rfl | (refine congrArg (Value.int _) ?_; omega)) .nil)
    rintro s w13 ⟨hw13, hs⟩
    show RunC P _ _ _ (_ :: _) _
    refine c_seq ?_
    refine c_seq ?_
    refine c_region ?_
    refine l_move rfl rfl rfl ?_
    refine l_lss rfl rfl rfl rfl ?_
    refine l_nil ?_
    refine e_then ?_
    refine c_keep [1, 9, 47] (.cons rfl (.cons rfl (.cons rfl .nil))) ?_
    first | refine c_cond rfl (fun hc3 => ?_) (fun hc3 => ?_) | refine c_condb rfl (fun hc3 => ?_) (fun hc3 => ?_)
    · skip
      refine c_skip ?_
      refine e_then ?_
      refine c_keep [1, 9] (.cons rfl (.cons rfl .nil)) ?_
      refine c_seq ?_
      refine c_block ?_
      refine c_seq ?_
      refine c_region ?_
      have hBs : hasP L1 (s : Int).toNat = true := hall _ (by omega)
      refine l_move rfl rfl rfl ?_
      refine l_move rfl rfl rfl ?_
      refine l_callp rfl rfl Try.func12 rfl rfl (.cons rfl (.cons rfl .nil)) (BuiltC b L1 hL1 (s : Int) _ (hw13.ok mem0) (hw13.ok mem1)) ?_
      refine l_neq rfl rfl rfl rfl ?_
      refine l_turn (s := 53) (v' := .bool false) rfl (by rw [if_pos ⟨by omega, hBs⟩]; rfl) ?_
      refine l_nil ?_
      refine e_then ?_
      refine c_keep [1, 9, 53] (.cons rfl (.cons rfl (.cons rfl .nil))) ?_
      refine c_cond_f rfl rfl ?_
      refine c_skip ?_
      refine e_blk ?_
      refine e_then ?_
      refine c_keep [1, 9] (.cons rfl (.cons rfl .nil)) ?_
      refine c_region ?_
      refine l_move rfl rfl rfl ?_
      refine l_add rfl rfl rfl rfl (w_i64 (by omega)) ?_
      refine l_assign rfl rfl rfl ?_
      refine l_nil ?_
      refine e_againk (i := (s)) (s + 1) ?_ ?_ (.cons rfl .nil) ?_
      · first | omega | (simp; omega)
      · exact ⟨hw13, by omega⟩
      · exact (.cons rfl (by first | rfl | (refine congrArg (Value.int _) ?_; omega)) .nil)
    · skip
      refine c_exit ?_
      refine e_then_exit ?_
      refine e_then_exit ?_
      refine e_blk_exit ?_
      refine e_then ?_
      refine c_keep [1] (.cons rfl .nil) ?_
      refine c_seq ?_
      refine c_region ?_
      refine l_move rfl rfl rfl ?_
      have hw14 := St.frontL (l := [_]) hw13
      simp only [List.cons_append, List.nil_append] at hw14
      try clear hw13
      have hw15 := St.frontL (l := [_]) hw14
      simp only [List.cons_append, List.nil_append] at hw15
      try clear hw14
      refine l_call rfl rfl Try.func9 rfl rfl (.cons rfl (.cons rfl .nil)) (EntryC b L1 hL1 309 (by omega) w13 (St.rows (τ := cacW b L1) hw15)) ?_
      rintro _ w16 ⟨L2, rfl, hQ, hX⟩
      have hw16 := hX _ _ _ _ hw15
      simp only [cacW, List.cons_append, List.nil_append] at hw16
      try clear hX hw15
      obtain rfl : L1 = L2 := by unfold CacQ at hQ; rw [if_neg (by omega)] at hQ; exact hQ.symm
      have he309 : entS 309 = (0, 0, 60) := by decide +kernel
      rw [he309]
      refine l_move rfl rfl rfl ?_
      refine l_extract rfl rfl rfl rfl ?_
      refine l_extract rfl rfl rfl rfl ?_
      refine l_extract rfl rfl rfl rfl ?_
      refine l_alloc hw16 ta30 rfl rfl (fun b16_6 w17 hw17 => ?_)
      try clear hw16
      refine l_store_blks hw17 .head (.zero (.zero .nil)) rfl tz30 rfl rfl (by first | (simp [Value.oneCell']; done) | (intro u hu; simp only [List.mem_cons, List.not_mem_nil, or_false] at hu; rcases hu with rfl | rfl <;> first | rfl | assumption)) (fun w18 hw18 => ?_)
      try clear hw17
      refine l_assign rfl rfl rfl ?_
      refine l_assign rfl rfl rfl ?_
      refine l_nil ?_
      refine e_then ?_
      refine c_keep [1, 12] (.cons rfl (.cons rfl .nil)) ?_
      refine c_seq ?_
      refine c_region ?_
      refine l_move rfl rfl rfl ?_
      refine l_callp rfl rfl Try.func10 rfl rfl (.cons rfl .nil) (numL7 _ _) ?_
      refine l_eql rfl rfl rfl rfl ?_
      refine l_turn (s := 62) (v' := .bool true) rfl (by simp) ?_
      refine l_move rfl rfl rfl ?_
      refine l_move rfl rfl rfl ?_
      refine l_callp rfl rfl Try.func15 rfl rfl (.cons rfl .nil) (HeldC b L1 hL1 _ (hw18.ok mem1) (hw18.ok mem2)) ?_
      refine l_eql rfl rfl rfl rfl ?_
      refine l_turn (s := 66) (v' := .bool true) rfl (by rw [hH]; rfl) ?_
      refine l_pick_t rfl rfl rfl rfl ?_
      refine l_move rfl rfl rfl ?_
      refine l_move rfl rfl rfl ?_
      refine l_callp rfl rfl Try.func12 rfl rfl (.cons rfl (.cons rfl .nil)) (BuiltC b L1 hL1 41 _ (hw18.ok mem1) (hw18.ok mem2)) ?_
      refine l_eql rfl rfl rfl rfl ?_
      refine l_turn (s := 71) (v' := .bool true) rfl (by rw [if_neg (by omega)]; rfl) ?_
      refine l_pick_t rfl rfl rfl rfl ?_
      refine l_move rfl rfl rfl ?_
      refine l_call rfl rfl Try.func7 rfl rfl .nil (wakesL7 w18) ?_
      rintro _ w19 ⟨rfl, hG⟩
      have hw19 := hG _ _ _ _ hw18
      try clear hG hw18
      simp only [List.cons_append, List.nil_append] at hw19
      refine l_turn (s := 74) (v' := .bool true) rfl (by rfl) ?_
      refine l_pick_t rfl rfl rfl rfl ?_
      refine l_assign rfl rfl rfl ?_
      refine l_nil ?_
      refine e_then ?_
      refine c_keep [0] (.cons rfl .nil) ?_
      refine c_ret ?_
      refine e_done1 Try.results4 rfl ?_
      refine ⟨_, rfl, ?_⟩
      have hw20 := St.del (.tail (.tail .head)) hw19
      try clear hw19
      have hw21 := St.del (.tail .head) hw20
      try clear hw20
      have hw22 := St.del .head hw21
      try clear hw21
      exact ⟨rfl, hw22.grows⟩
end Go.Proofs.Ytggdkplphfofkaa.W
