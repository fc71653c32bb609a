/- walk of the law PrintExponent -/
import Derived.Test.YtojjlipcjdaejaaGreatDoorPl
import Derived.Test.YtojjlipcjdaejaaGreatDoorPn
set_option linter.unusedVariables false
set_option linter.unusedSimpArgs false
set_option maxRecDepth 10000
namespace Go.Proofs.YtojjlipcjdaejaaGreatDoor.W
open Go.Vc Go.RowKit
theorem printExponentL (n b q : Int) (hn : -9223372036854775808 ≤ n ∧ n ≤ 9223372036854775807) (hb : 0 ≤ b ∧ b ≤ 18446744073709551615) (hq : -9223372036854775808 ≤ q ∧ q ≤ 9223372036854775807) (w : World) (hT : TabP w) :
  CallsV P 5 [.int .i64 n, .int .u64 b, .int .i64 q] w fun r w' => r = .bool true ∧ Grow w w' [] := by
 refine enterW Tryz.func5 rfl Tryz.ntmps5 rfl ?_
 have hw0 := St.start w
 refine c_seq (c_region (l_assign rfl rfl rfl (l_nil (e_then ?_))))
 refine c_keep [0, 1, 2] (.cons rfl (.cons rfl (.cons rfl .nil))) ?_
 refine c_seq (c_region (l_move rfl rfl rfl ?_))
 refine l_call rfl rfl Tryz.func6 rfl rfl (.cons rfl .nil) (kindL11 n hn w) ?_
 rintro _ _ ⟨k, rfl, rfl⟩
 refine l_assign rfl rfl rfl (l_nil (e_then ?_))
 refine c_keep [1, 2, 7] (.cons rfl (.cons rfl (.cons rfl .nil))) ?_
 refine c_seq (c_region (l_move rfl rfl rfl (l_move rfl rfl rfl (l_move rfl rfl rfl ?_))))
 refine l_call rfl rfl Tryz.func16 rfl rfl (.cons rfl (.cons rfl (.cons rfl .nil))) (ExponentP k b hb q hq w (tab_keep hT (fun k hk hf => hw0.ext.block k hk hf))) ?_
 rintro _ w1 ⟨va, e, t, rfl, hA, hG⟩
 have hw1 := hG _ _ _ _ hw0
 try clear hG hw0
 simp only [List.cons_append, List.nil_append] at hw1
 refine l_move rfl rfl rfl (l_extract rfl rfl rfl rfl (l_extract rfl rfl rfl rfl (l_assign rfl rfl rfl (l_assign rfl rfl rfl (l_nil ?_)))))
 refine e_then ?_
 refine c_keep [1, 2, 7, 8, 9] (.cons rfl (.cons rfl (.cons rfl (.cons rfl (.cons rfl .nil))))) ?_
 refine c_seq (c_region (l_move rfl rfl rfl (l_move rfl rfl rfl (l_move rfl rfl rfl ?_))))
 refine l_call rfl rfl Tryz.func17 rfl rfl (.cons rfl (.cons rfl (.cons rfl .nil))) (Exponent11 k b hb q hq w1) ?_
 rintro _ w2 ⟨vb, e2, t2, rfl, hB, hG⟩
 have hw2 := hG _ _ _ _ hw1
 try clear hG hw1
 simp only [List.cons_append, List.nil_append] at hw2
 obtain ⟨rfl, rfl⟩ := hA.unique hb.1 hB
 refine l_move rfl rfl rfl (l_extract rfl rfl rfl rfl (l_extract rfl rfl rfl rfl (l_assign rfl rfl rfl (l_assign rfl rfl rfl (l_nil ?_)))))
 refine e_then ?_
 refine c_keep [8, 9, 10, 11] (.cons rfl (.cons rfl (.cons rfl (.cons rfl .nil)))) ?_
 refine c_seq (c_region (l_move rfl rfl rfl (l_move rfl rfl rfl ?_)))
 refine l_callp rfl rfl Tryz.func9 rfl rfl (.cons rfl (.cons rfl .nil)) (sameK va vb t t w2 (hw2.io mem1) (hw2.ii mem0)) ?_
 refine l_turn (s := 30) (v' := .bool true) rfl (by simp) ?_
 refine l_move rfl rfl rfl (l_move rfl rfl rfl ?_)
 refine l_callp rfl rfl Tryz.func10 rfl rfl (.cons rfl .nil) (numL11 _ _) ?_
 refine l_move rfl rfl rfl ?_
 refine l_eql rfl rfl rfl rfl ?_
 refine l_turn (s := 35) (v' := .bool true) rfl (by simp) ?_
 refine l_pick_t rfl rfl rfl rfl ?_
 refine l_move rfl rfl rfl ?_
 refine l_call rfl rfl Tryz.func13 rfl rfl .nil (wakesL11 w2 (tab_keep hT (fun k hk hf => hw2.ext.block k hk hf))) ?_
 rintro _ w3 ⟨rfl, hG⟩
 have hw3 := hG _ _ _ _ hw2
 try clear hG hw2
 simp only [List.cons_append, List.nil_append] at hw3
 refine l_turn (s := 38) (v' := .bool true) rfl (by rfl) ?_
 refine l_pick_t rfl rfl rfl rfl ?_
 refine l_assign rfl rfl rfl (l_nil (e_then ?_))
 refine c_keep [6] (.cons rfl .nil) ?_
 refine c_ret ?_
 refine e_done1 Tryz.results5 rfl ?_
 refine ⟨_, rfl, ?_⟩
 have hw4 := St.del (.tail .head) hw3
 try clear hw3
 have hw5 := St.del .head hw4
 try clear hw4
 exact ⟨rfl, hw5.grows⟩
end Go.Proofs.YtojjlipcjdaejaaGreatDoor.W
