/- ParseExacts: the exact reading of any text by any kind, and the segment it needs, are the document's; no condition. -/
import Derived.Test.YtjcbdogohjafdaaGreatQj
import Derived.Test.YtjcbdogohjafdaaGreatRows
set_option linter.unusedVariables false
set_option linter.unusedSimpArgs false
set_option maxRecDepth 10000
namespace Go.Proofs.YtjcbdogohjafdaaGreat
open Go.Vc Go.RowKit Go.Proofs.YtjcbdogohjafdaaGreat.W
open Go.ChangeShapes Go.WideShapes Go.ChangeAt Go.ChangeMaps
theorem tryOwn : ownKnob Tryz.prog.godebug = none := by kernel_rfl
theorem tryLaid : laidOutB Tryz.prog = true := by kernel_rfl
theorem cells5 : Tryz.prog.cellsOf 5 = 1 := by kernel_rfl

theorem parseExacts_params : ∀ t ∈ Tryz.f6.params.toList, Tryz.prog.readableRec t = true ∧ t < Tryz.prog.types.size := by
  have h : (Tryz.f6.params.toList.all fun t => Tryz.prog.readableRec t && decide (t < Tryz.prog.types.size)) = true := by kernel_rfl
  intro t ht
  have := List.all_eq_true.1 h t ht
  simpa using this


set_option maxRecDepth 100000 in
theorem parseExacts_lifted (os : Os) (started : os.Started) (H : Type) (enc : TypeId × Value → H) :
    ReturnsInHanded {} Tryz.checked os 6 .any (Rows.parseExactsSpec.pre6 enc Tryz.prog Tryz.f6 Rows.parseExactsRow.domain false) (Rows.parseExactsSpec.post enc Tryz.prog Tryz.f6 false true false false) := by
  refine returnsInHanded_of_change (C := Tryz.checked) tryOwn started (by kernel_rfl) Tryz.func6
    (ChangeSpec.witness6 (enc := enc) (C := Tryz.checked) false ⟨#[], #[.int .i64 0, .slice none 0 0], []⟩ 8 (by kernel_rfl) (by kernel_rfl) (by kernel_rfl) (by kernel_rfl)) ?_
  intro W base args ds gs before hval0 hW hcnd _
  have hval : ∀ (j : Nat) t v, Tryz.f6.params[j]? = some t → args[j]? = some v → Value.okWide Tryz.prog W .any base t v := hval0
  have hW' := hW
  obtain ⟨p, q, hA0, hV, rfl, hfz, hnd⟩ := hW
  have hA : DataW.TrodAll enc Tryz.prog W 0 (fun _ => true) true Tryz.f6.params.toList args.toList ds p := hA0
  rw [Tryz.params6] at hA hval
  obtain ⟨v0, v1, d0, d1, p0, p1, rfl, rfl, rfl, h0, h1⟩ := trodAll_two hA
  obtain ⟨rfl, rfl⟩ := trodVars_none hV
  obtain ⟨n, rfl, hn⟩ := open_i64 Tryz.underlying3 (hval 0 3 v0 rfl rfl)
  obtain ⟨l, hl⟩ := open_bytes Tryz.underlying26 Tryz.underlying5 cells5 (hval 1 26 v1 rfl rfl) h1
  refine Calls.mono (parseExactsL n hn v1 l W hl) fun e W' he => ?_
  obtain ⟨v, hev, hrt, hG⟩ := he
  subst hev hrt
  exact ⟨_, rfl, Z3i tryLaid parseExacts_params rfl hW' hG.below rfl rfl rfl rfl Tryz.underlying4⟩


theorem parseExacts_holds : Rows.ParseExactsSaid :=
  OpenClaim.holds_of_wide 6 Tryz.f6 rfl rfl rfl rfl rfl rfl rfl ⟨rfl, rfl, rfl, rfl, rfl⟩ rfl rfl rfl rfl rfl (by kernel_rfl) Tryz.func6 (by kernel_rfl)
    (of_decide_eq_true (by kernel_rfl)) (by unfold Func.isWrapper; first | (rw [if_pos (by decide +kernel)]; kernel_rfl) | (rw [if_neg (by decide +kernel)]; exact ⟨rfl, rfl⟩))
    (fun os started H enc _ => parseExacts_lifted os started H enc)

end Go.Proofs.YtjcbdogohjafdaaGreat
