/- walks of mintagekeep.Cut, Same, Lend, Back -/
import Derived.Test.YtjcbdogohjafdaaGreatFa
set_option linter.unusedVariables false
set_option linter.unusedSimpArgs false
set_option maxRecDepth 10000
namespace Go.Proofs.YtjcbdogohjafdaaGreat.W
open Go.Vc Go.RowKit Tryz
theorem cutK (v : Value) (l : List UInt8) (n : Nat) (w : World) (hv : IB w v l) :
  Z0g P 13 [v, .int .i64 (n : Int)] w fun r w' => IV w r (bys (l.take n)) ∧ w = w' := by
 refine Z0o func13 rfl ntmps13 rfl ?_
 refine Z03 (Z00 (Zg (Z02 (Z01 ?_))))
 refine Zk [0, 1] ?_
 refine Z03 (Z03 (Z00 (Zm ?_)))
 refine Z0I rfl rfl underlying26 rfl (by first | exact hv | assumption) ?_
 refine Zm ?_
 refine Zw ?_
 refine Z02 (Z01 ?_)
 refine Zk [0, 1, 8] ?_
 (first | refine Z08 rfl ?_ ?_ | refine Z05 rfl ?_ ?_) <;> intro hc0
 ·refine Z03 (Z00 (Zm (Zm ?_)))
  refine Z2O (l := 0) (h := n) rfl rfl underlying26 tz5 rfl rfl rfl rfl hv ZD ZD (.inl rfl) (by simp) ZO ZI (fun v2_2 h2_2 ho2_2 => ?_)
  have e2 : ((bys l).take n).drop 0 = bys (l.take n) := by simp [bys, List.map_take]
  rw [e2] at h2_2
  refine Zg (Z02 (Z01 ?_))
  refine Zk [4] ?_
  refine Z0f ?_
  refine Z06 ?_
  refine Z0l results13 rfl ?_
  refine ⟨_, rfl, ?_⟩
  exact ⟨h2_2, rfl⟩
 refine Z09 (Z01 ?_)
 refine Zk [0] ?_
 refine Z03 (Z00 (Zm (Zg (Z02 (Z01 ?_)))))
 refine Zk [4] ?_
 refine Z0f ?_
 refine Z0l results13 rfl ?_
 refine ⟨_, rfl, ?_⟩
 exact ⟨by rw [List.take_of_length_le ZO]; exact hv, rfl⟩
end Go.Proofs.YtjcbdogohjafdaaGreat.W
