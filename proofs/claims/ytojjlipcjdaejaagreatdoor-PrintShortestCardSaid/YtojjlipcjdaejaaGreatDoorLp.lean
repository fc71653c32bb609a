/- walks of mintagekeep.Cut, Same, Lend, Back -/
import Derived.Test.YtojjlipcjdaejaaGreatDoorFa
import Derived.Test.YtojjlipcjdaejaaGreatDoorVg
set_option linter.unusedVariables false
set_option linter.unusedSimpArgs false
set_option maxRecDepth 10000
namespace Go.Proofs.YtojjlipcjdaejaaGreatDoor.W
open Go.Vc Go.RowKit
theorem sameK (a b : Value) (la lb : List UInt8) (w : World) (ha : IB w a la) (hb : IB w b lb) :
  CallsV P 9 [a, b] w fun r w' => r = .bool (decide (la = lb)) ∧ w = w' := by
 refine enterW Tryz.func9 rfl Tryz.ntmps9 rfl ?_
 refine c_seq (c_region (l_assign rfl rfl rfl (l_nil (e_then ?_))))
 refine c_keep [0, 1] (.cons rfl (.cons rfl .nil)) ?_
 refine c_seq (c_region (l_move rfl rfl rfl ?_))
 refine v_tostr (l := la) rfl rfl Tryz.underlying24 Tryz.underlying5 Tryz.underlying9 rfl (by first | exact ha | exact hb | assumption) ?_
 refine l_move rfl rfl rfl ?_
 refine v_tostr (l := lb) rfl rfl Tryz.underlying24 Tryz.underlying5 Tryz.underlying9 rfl (by first | exact ha | exact hb | assumption) ?_
 refine l_eqls rfl rfl rfl rfl ?_
 refine l_assign rfl rfl rfl (l_nil (e_then ?_))
 refine c_keep [4] (.cons rfl .nil) ?_
 refine c_ret ?_
 refine e_done1 Tryz.results9 rfl ?_
 refine ⟨_, rfl, ?_⟩
 exact ⟨rfl, rfl⟩
end Go.Proofs.YtojjlipcjdaejaaGreatDoor.W
