/- walks of the laws PrintFixed -/
import Derived.Test.YtojjlipcjdaejaaDoorPf
import Derived.Test.YtojjlipcjdaejaaDoorPh
import Derived.Test.YtojjlipcjdaejaaDoorLp
import Derived.Test.YtojjlipcjdaejaaDoorVr
set_option linter.unusedVariables false
set_option linter.unusedSimpArgs false
set_option maxRecDepth 10000
namespace Go.Proofs.YtojjlipcjdaejaaDoor.W
open Go.Vc Go.RowKit
instance (x y t : Int) : Decidable (TopR x y t) := by unfold TopR; infer_instance
set_option exponentiation.threshold 2000 in
theorem sh_wake : ShT 10 13832806255468478464 0 [45, 49, 46, 53] :=
 ⟨by decide +kernel, fun h => absurd rfl h, fun _ => ⟨.f64, [49, 46, 53], rfl, by decide +kernel, by decide +kernel, fun h => absurd h (by decide +kernel), fun _ _ => ⟨15, -1, ⟨0, -1, ⟨by decide +kernel, by decide, fun g h1 h2 => by
  obtain rfl : g = 0 := by omega
  decide +kernel, by decide +kernel⟩, by decide, 0, by decide +kernel, rfl⟩, by decide +kernel⟩⟩⟩
set_option exponentiation.threshold 2000 in
theorem fx_wake : FixT 10 4612811918334230528 0 0 [50] :=
 ⟨by decide +kernel, fun h => absurd rfl h, fun _ => ⟨.f64, rfl, by decide +kernel, by decide +kernel⟩⟩
theorem numL11 (x : Int) (w : World) :
  CallsV P 9 [.int .i64 x] w fun r w' => r = .int .i64 x ∧ w = w' := by
 refine enterW Tryd.func9 rfl Tryd.ntmps9 rfl ?_
 refine c_seq (c_region (l_assign rfl rfl rfl (l_nil (e_then ?_))))
 refine c_keep [0] (.cons rfl .nil) ?_
 refine c_seq (c_region (l_move rfl rfl rfl (l_assign rfl rfl rfl (l_nil (e_then ?_)))))
 refine c_keep [2] (.cons rfl .nil) ?_
 refine c_ret ?_
 refine e_done1 Tryd.results9 rfl ?_
 refine ⟨_, rfl, ?_⟩
 exact ⟨rfl, rfl⟩
theorem wakesL11  (w : World) (hT : TabP w) :
  CallsV P 10 [] w fun r w' => r = .bool true ∧ Grow w w' [] := by
 refine enterW Tryd.func10 rfl Tryd.ntmps10 rfl ?_
 have hw0 := St.start w
 refine c_seq (c_region (l_assign rfl rfl rfl (l_nil (e_then ?_))))
 refine c_keep [] .nil ?_
 refine c_seq (c_region ?_)
 refine l_call rfl rfl Tryd.func21 rfl rfl (.cons rfl (.cons rfl .nil)) (ShortestP 10 13832806255468478464 (by omega) w (tab_keep hT (fun k hk hf => hw0.ext.block k hk hf))) ?_
 rintro _ w1 ⟨va, e, t, rfl, hA, hG⟩
 have hw1 := hG _ _ _ _ hw0
 try clear hG hw0
 simp only [List.cons_append, List.nil_append] at hw1
 obtain ⟨rfl, rfl⟩ := hA.unique (by omega) sh_wake
 refine l_move rfl rfl rfl (l_extract rfl rfl rfl rfl (l_extract rfl rfl rfl rfl (l_assign rfl rfl rfl (l_assign rfl rfl rfl (l_nil ?_)))))
 refine e_then ?_
 refine c_keep [1, 2] (.cons rfl (.cons rfl .nil)) ?_
 refine c_seq (c_region ?_)
 refine l_call rfl rfl Tryd.func7 rfl rfl (.cons rfl (.cons rfl (.cons rfl .nil))) (FixedP 10 4612811918334230528 (by omega) 0 (by omega) w1) ?_
 rintro _ w2 ⟨vb, e2, t2, rfl, hB, hG⟩
 have hw2 := hG _ _ _ _ hw1
 try clear hG hw1
 simp only [List.cons_append, List.nil_append] at hw2
 obtain ⟨rfl, rfl⟩ := hB.unique fx_wake
 refine l_move rfl rfl rfl (l_extract rfl rfl rfl rfl (l_extract rfl rfl rfl rfl (l_assign rfl rfl rfl (l_assign rfl rfl rfl (l_nil ?_)))))
 refine e_then ?_
 refine c_keep [1, 2, 3, 4] (.cons rfl (.cons rfl (.cons rfl (.cons rfl .nil)))) ?_
 refine c_seq (c_region (l_move rfl rfl rfl ?_))
 refine l_callp rfl rfl Tryd.func9 rfl rfl (.cons rfl .nil) (numL11 _ _) ?_
 refine l_eql rfl rfl rfl rfl ?_
 refine l_turn (s := 15) (v' := .bool true) rfl (by simp) ?_
 refine l_move rfl rfl rfl (l_move rfl rfl rfl ?_)
 refine v_tostr (l := [45, 49, 46, 53]) rfl rfl Tryd.underlying25 Tryd.underlying5 Tryd.underlying9 rfl (by first | exact hw2.io mem0 | exact hw2.io mem1 | assumption) ?_
 refine l_eqls rfl rfl rfl rfl ?_
 refine l_turn (s := 19) (v' := .bool true) rfl (by simp) ?_
 refine l_pick_t rfl rfl rfl rfl ?_
 refine l_move rfl rfl rfl (l_move rfl rfl rfl ?_)
 refine l_callp rfl rfl Tryd.func9 rfl rfl (.cons rfl .nil) (numL11 _ _) ?_
 refine l_eql rfl rfl rfl rfl ?_
 refine l_turn (s := 24) (v' := .bool true) rfl (by simp) ?_
 refine l_pick_t rfl rfl rfl rfl ?_
 refine l_move rfl rfl rfl (l_move rfl rfl rfl ?_)
 refine v_tostr (l := [50]) rfl rfl Tryd.underlying25 Tryd.underlying5 Tryd.underlying9 rfl (by first | exact hw2.io mem0 | exact hw2.io mem1 | assumption) ?_
 refine l_eqls rfl rfl rfl rfl ?_
 refine l_turn (s := 29) (v' := .bool true) rfl (by simp) ?_
 refine l_pick_t rfl rfl rfl rfl ?_
 refine l_assign rfl rfl rfl (l_nil (e_then ?_))
 refine c_keep [0] (.cons rfl .nil) ?_
 refine c_ret ?_
 refine e_done1 Tryd.results10 rfl ?_
 refine ⟨_, rfl, ?_⟩
 have hw3 := St.del (.tail .head) hw2
 try clear hw2
 have hw4 := St.del .head hw3
 try clear hw3
 exact ⟨rfl, hw4.grows⟩
end Go.Proofs.YtojjlipcjdaejaaDoor.W
