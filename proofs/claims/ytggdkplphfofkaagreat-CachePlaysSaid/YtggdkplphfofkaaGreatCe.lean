/- walks of the laws of the cache -/
import Derived.Test.YtggdkplphfofkaaGreatCd
import Derived.Test.YtggdkplphfofkaaGreatVr
set_option linter.unusedVariables false
set_option linter.unusedSimpArgs false
set_option maxRecDepth 10000
namespace Go.Proofs.YtggdkplphfofkaaGreat.W
open Go.Vc Go.RowKit
def heldF (f : Nat → Bool) : Nat → Int
 | 0 => 0
 | k + 1 => heldF f k + (if f k = true then (firstS (k : Int)).2.1 else 0)
theorem heldN_eq {L : Cac} {f : Nat → Bool} : ∀ k, (∀ t, t < k → hasP L t = f t) → heldN L k = heldF f k
 | 0, _ => rfl
 | k + 1, h => by
  unfold heldN heldF
  rw [heldN_eq k (fun t ht => h t (by omega)), h k (by omega)]
theorem has0 (t : Nat) : hasP (List.replicate 41 none) t = false := by
 unfold hasP
 split
 ·rename_i h
  obtain ⟨hs, h2⟩ := List.getElem?_eq_some_iff.1 h
  rw [List.getElem_replicate] at h2
  cases h2
 ·rfl
theorem held0 : heldN (List.replicate 41 none) 41 = 0 := by
 rw [heldN_eq (f := fun _ => false) 41 (fun t _ => has0 t)]
 decide
theorem ent_zero : entS 0 = (170141183460469231731687303715884105728, -127, 0) := by decide +kernel
theorem numL7 (x : Int) (w : World) :
  CallsV P 13 [.int .i64 x] w fun r w' => r = .int .i64 x ∧ w = w' := by
 refine enterW Tryz.func13 rfl Tryz.ntmps13 rfl ?_
 refine c_seq (c_region (l_assign rfl rfl rfl (l_nil (e_then ?_))))
 refine c_keep [0] (.cons rfl .nil) ?_
 refine c_seq (c_region (l_move rfl rfl rfl (l_assign rfl rfl rfl (l_nil (e_then ?_)))))
 refine c_keep [2] (.cons rfl .nil) ?_
 refine c_ret ?_
 refine e_done1 Tryz.results13 rfl ?_
 refine ⟨_, rfl, ?_⟩
 exact ⟨rfl, rfl⟩
theorem wakesL7  (w : World) :
  CallsV P 5 [] w fun r w' => r = .bool true ∧ Grow w w' [] := by
 refine enterW Tryz.func5 rfl Tryz.ntmps5 rfl ?_
 have hw0 := St.start w
 refine c_seq (c_region (l_assign rfl rfl rfl (l_nil (e_then ?_))))
 refine c_keep [] .nil ?_
 refine c_seq (c_region ?_)
 refine l_call rfl rfl Tryz.func4 rfl rfl .nil (newC w) ?_
 rintro _ w1 ⟨b, rfl, hG⟩
 have hw1 := hG _ _ _ _ hw0
 try clear hG hw0
 simp only [List.cons_append, List.nil_append] at hw1
 refine l_assign rfl rfl rfl (l_nil (e_then ?_))
 refine c_keep [1] (.cons rfl .nil) ?_
 refine c_seq (c_seq (c_region (l_move rfl rfl rfl ?_)))
 refine l_eqlp (by kernel_rfl) rfl rfl rfl rfl ?_
 refine l_turn (s := 7) (v' := .bool false) rfl (by rfl) ?_
 refine l_move rfl rfl rfl (l_move rfl rfl rfl ?_)
 refine l_callp rfl rfl Tryz.func10 rfl rfl (.cons rfl .nil) (HeldC b (List.replicate 41 none) (List.length_replicate ..) _ (hw1.ok mem0) (hw1.ok mem1)) ?_
 refine l_neq rfl rfl rfl rfl ?_
 refine l_turn (s := 11) (v' := .bool false) rfl (by rw [held0]; rfl) ?_
 refine l_pick_f rfl rfl rfl rfl ?_
 refine l_move rfl rfl rfl (l_move rfl rfl rfl ?_)
 refine l_callp rfl rfl Tryz.func9 rfl rfl (.cons rfl (.cons rfl .nil)) (CompleteC b (List.replicate 41 none) (List.length_replicate ..) 21 _ (hw1.ok mem0) (hw1.ok mem1)) ?_
 refine l_turn (s := 15) (v' := .bool false) rfl (by rw [has0]; rfl) ?_
 refine l_pick_f rfl rfl rfl rfl ?_
 refine l_nil (e_then ?_)
 refine c_keep [1, 16] (.cons rfl (.cons rfl .nil)) ?_
 refine c_cond_f rfl rfl ?_
 refine c_skip (e_then ?_)
 refine c_keep [1] (.cons rfl .nil) ?_
 refine c_seq (c_region (l_move rfl rfl rfl ?_))
 refine l_call rfl rfl Tryz.func12 rfl rfl (.cons rfl (.cons rfl .nil)) (EntryC b (List.replicate 41 none) (List.length_replicate ..) 0 (by omega) w1 (St.rows (τ := cacW b (List.replicate 41 none)) hw1)) ?_
 rintro _ w2 ⟨L1, rfl, hQ, hX⟩
 have hw2 := hX _ _ _ _ hw1
 simp only [cacW, List.cons_append, List.nil_append] at hw2
 try clear hX hw1
 have hL1 : L1.length = 41 := hQ.len
 have hH : heldN L1 41 = 16 := by
  rw [heldN_eq (f := fun t => decide (inQ 0 ∧ t = ((0 + 342 : Int) / 16).toNat)) 41 (fun t _ => by rw [hQ.has, has0, Bool.or_false])]
  decide
 have hB : hasP L1 (21 : Int).toNat = true := by rw [hQ.has, has0]; decide
 rw [ent_zero]
 refine l_move rfl rfl rfl (l_extract rfl rfl rfl rfl (l_extract rfl rfl rfl rfl (l_extract rfl rfl rfl rfl ?_)))
 refine l_alloc hw2 ta67 rfl rfl (fun b4_6 w3 hw3 => ?_)
 try clear hw2
 refine l_store_blks hw3 .head (.zero (.zero .nil)) rfl tz67 rfl rfl (by first | (simp [Value.oneCell']; done) | (intro u hu; simp only [List.mem_cons, List.not_mem_nil, or_false] at hu; rcases hu with rfl | rfl <;> first | rfl | assumption)) (fun w4 hw4 => ?_)
 try clear hw3
 refine l_assign rfl rfl rfl (l_assign rfl rfl rfl (l_nil (e_then ?_)))
 refine c_keep [1, 2, 3, 4] (.cons rfl (.cons rfl (.cons rfl (.cons rfl .nil)))) ?_
 refine c_seq (c_region (l_move rfl rfl rfl ?_))
 refine l_callp rfl rfl Tryz.func13 rfl rfl (.cons rfl .nil) (numL7 _ _) ?_
 refine l_eql rfl rfl rfl rfl ?_
 refine l_turn (s := 25) (v' := .bool true) rfl (by simp) ?_
 refine l_move rfl rfl rfl (l_move rfl rfl rfl ?_)
 refine l_eql rfl rfl rfl rfl ?_
 refine l_turn (s := 28) (v' := .bool true) rfl (by simp) ?_
 refine l_pick_t rfl rfl rfl rfl ?_
 refine l_move rfl rfl rfl ?_
 refine l_load_agg hw4 mem0 rfl rfl Tryz.underlying67 rfl tz67 rfl (.take (.take .nil)) ?_
 refine l_buildS rfl rfl pl67 ta67 (.one rfl rfl (by first | rfl | assumption) .zero .nil) ?_
 refine l_eqlA rfl rfl fl67 rfl rfl (.int rfl rfl (.int rfl rfl .nil)) ?_
 refine l_turn (s := 33) (v' := .bool true) rfl (by simp) ?_
 refine l_pick_t rfl rfl rfl rfl ?_
 refine l_move rfl rfl rfl (l_move rfl rfl rfl ?_)
 refine l_callp rfl rfl Tryz.func10 rfl rfl (.cons rfl .nil) (HeldC b L1 hL1 _ (hw4.ok mem1) (hw4.ok mem2)) ?_
 refine l_eql rfl rfl rfl rfl ?_
 refine l_turn (s := 38) (v' := .bool true) rfl (by rw [hH]; rfl) ?_
 refine l_pick_t rfl rfl rfl rfl ?_
 refine l_move rfl rfl rfl (l_move rfl rfl rfl ?_)
 refine l_callp rfl rfl Tryz.func7 rfl rfl (.cons rfl (.cons rfl .nil)) (BuiltC b L1 hL1 21 _ (hw4.ok mem1) (hw4.ok mem2)) ?_
 refine l_eql rfl rfl rfl rfl ?_
 refine l_turn (s := 43) (v' := .bool true) rfl (by rw [if_pos ⟨by omega, hB⟩]; rfl) ?_
 refine l_pick_t rfl rfl rfl rfl ?_
 refine l_move rfl rfl rfl (l_move rfl rfl rfl ?_)
 refine l_callp rfl rfl Tryz.func9 rfl rfl (.cons rfl (.cons rfl .nil)) (CompleteC b L1 hL1 21 _ (hw4.ok mem1) (hw4.ok mem2)) ?_
 refine l_turn (s := 47) (v' := .bool true) rfl (by rw [decide_eq_true ⟨by omega, hB⟩]) ?_
 refine l_pick_t rfl rfl rfl rfl ?_
 refine l_assign rfl rfl rfl (l_nil (e_then ?_))
 refine c_keep [0] (.cons rfl .nil) ?_
 refine c_ret ?_
 refine e_done1 Tryz.results5 rfl ?_
 refine ⟨_, rfl, ?_⟩
 have hw5 := St.del (.tail (.tail .head)) hw4
 try clear hw4
 have hw6 := St.del (.tail .head) hw5
 try clear hw5
 have hw7 := St.del .head hw6
 try clear hw6
 exact ⟨rfl, hw7.grows⟩
end Go.Proofs.YtggdkplphfofkaaGreat.W
