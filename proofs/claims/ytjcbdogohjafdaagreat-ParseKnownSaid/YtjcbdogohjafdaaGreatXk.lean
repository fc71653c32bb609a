/- ParseKnown: numbers that are hard to round are read right, one by one; no condition. -/
import Derived.Test.YtjcbdogohjafdaaGreatQj
import Derived.Test.YtjcbdogohjafdaaGreatRows
set_option linter.unusedVariables false
set_option linter.unusedSimpArgs false
set_option maxRecDepth 10000
namespace Go.Proofs.YtjcbdogohjafdaaGreat
open Go.Vc Go.RowKit Go.Proofs.YtjcbdogohjafdaaGreat.W
open Go.ChangeShapes Go.WideShapes Go.ChangeAt Go.ChangeMaps
theorem tryOwn : ownKnob Tryz.prog.godebug = none := by kernel_rfl
theorem tryLaid : laidOutB Tryz.prog = true := by kernel_rfl

theorem parseKnown_params : ∀ t ∈ Tryz.f5.params.toList, Tryz.prog.readableRec t = true ∧ t < Tryz.prog.types.size := by
  have h : (Tryz.f5.params.toList.all fun t => Tryz.prog.readableRec t && decide (t < Tryz.prog.types.size)) = true := by kernel_rfl
  intro t ht
  have := List.all_eq_true.1 h t ht
  simpa using this


set_option maxRecDepth 100000 in
theorem parseKnown_lifted (os : Os) (started : os.Started) (H : Type) (enc : TypeId × Value → H) :
    ReturnsInHanded {} Tryz.checked os 5 .any (Rows.parseKnownSpec.pre6 enc Tryz.prog Tryz.f5 Rows.parseKnownRow.domain false) (Rows.parseKnownSpec.post enc Tryz.prog Tryz.f5 false true false false) := by
  refine returnsInHanded_of_change (C := Tryz.checked) tryOwn started (by kernel_rfl) Tryz.func5
    (ChangeSpec.witness6 (enc := enc) (C := Tryz.checked) false ⟨#[], #[], []⟩ 8 (by kernel_rfl) (by kernel_rfl) (by kernel_rfl) (by kernel_rfl)) ?_
  intro W base args ds gs before hval0 hW hcnd _
  have hval : ∀ (j : Nat) t v, Tryz.f5.params[j]? = some t → args[j]? = some v → Value.okWide Tryz.prog W .any base t v := hval0
  have hW' := hW
  obtain ⟨p, q, hA0, hV, rfl, hfz, hnd⟩ := hW
  have hA : DataW.TrodAll enc Tryz.prog W 0 (fun _ => true) true Tryz.f5.params.toList args.toList ds p := hA0
  rw [Tryz.params5] at hA hval
  obtain ⟨rfl, rfl, rfl⟩ := trodAll_none hA
  obtain ⟨rfl, rfl⟩ := trodVars_none hV
  skip
  refine Calls.mono (parseKnownL W) fun e W' he => ?_
  obtain ⟨v, hev, hrt, hG⟩ := he
  subst hev hrt
  exact ⟨_, rfl, Z3i tryLaid parseKnown_params rfl hW' hG.below rfl rfl rfl rfl Tryz.underlying4⟩


theorem parseKnown_holds : Rows.ParseKnownSaid :=
  OpenClaim.holds_of_wide 5 Tryz.f5 rfl rfl rfl rfl rfl rfl rfl ⟨rfl, rfl, rfl, rfl, rfl⟩ rfl rfl rfl rfl rfl (by kernel_rfl) Tryz.func5 (by kernel_rfl)
    (of_decide_eq_true (by kernel_rfl)) (by unfold Func.isWrapper; first | (rw [if_pos (by decide +kernel)]; kernel_rfl) | (rw [if_neg (by decide +kernel)]; exact ⟨rfl, rfl⟩))
    (fun os started H enc _ => parseKnown_lifted os started H enc)

end Go.Proofs.YtjcbdogohjafdaaGreat
