/- the row of NatTexts: Parse of any text (of at most 3000 bytes) and Text of any number (of at most 140 words) are the document's; no condition -/
import Derived.Test.YtnddfmjmeghkjaaLb
import Derived.Test.YtnddfmjmeghkjaaRows
set_option linter.unusedVariables false
set_option linter.unusedSimpArgs false
set_option maxRecDepth 10000
namespace Go.Proofs.Ytnddfmjmeghkjaa
open Go.Vc Go.RowKit Go.Proofs.Ytnddfmjmeghkjaa.W

open Go.ChangeShapes Go.WideShapes Go.ChangeAt Go.ChangeMaps
theorem tryOwn : ownKnob Try.prog.godebug = none := by kernel_rfl
theorem tryLaid : laidOutB Try.prog = true := by kernel_rfl
theorem natTexts_params : ∀ t ∈ Try.f4.params.toList, Try.prog.readableRec t = true ∧ t < Try.prog.types.size := by
  have h : (Try.f4.params.toList.all fun t => Try.prog.readableRec t && decide (t < Try.prog.types.size)) = true := by kernel_rfl
  intro t ht
  have := List.all_eq_true.1 h t ht
  simpa using this
theorem cells22 : Try.prog.cellsOf 22 = 1 := by kernel_rfl


set_option maxRecDepth 100000 in
theorem natTexts_lifted (os : Os) (started : os.Started) (H : Type) (enc : TypeId × Value → H) :
    ReturnsInHanded {} Try.checked os 4 .any (Rows.natTextsSpec.pre6 enc Try.prog Try.f4 Rows.natTextsRow.domain false) (Rows.natTextsSpec.post enc Try.prog Try.f4 false true false false) := by
  refine returnsInHanded_of_change (C := Try.checked) tryOwn started (by kernel_rfl) Try.func4
    (ChangeSpec.witness6 (enc := enc) (C := Try.checked) false ⟨#[], #[.string ⟨#[]⟩, .slice none 0 0], []⟩ 8 (by kernel_rfl) (by kernel_rfl) (by kernel_rfl) (by kernel_rfl)) ?_
  intro W base args ds gs before hval0 hW hcnd _
  have hval : ∀ (j : Nat) t v, Try.f4.params[j]? = some t → args[j]? = some v → Value.okWide Try.prog W .any base t v := hval0
  have hW' := hW
  obtain ⟨p, q, hA0, hV, rfl, hfz, hnd⟩ := hW
  have hA : DataW.TrodAll enc Try.prog W 0 (fun _ => true) true Try.f4.params.toList args.toList ds p := hA0
  rw [Try.params4] at hA hval
  obtain ⟨v0, v1, d0, d1, p0, p1, rfl, rfl, rfl, h0, h1⟩ := trodAll_two hA
  obtain ⟨rfl, rfl⟩ := trodVars_none hV
  obtain ⟨s, rfl, rfl, rfl, hs⟩ := open_string Try.underlying9 (hval 0 9 v0 rfl rfl) h0
  obtain ⟨l, hl, hw⟩ := open_words Try.underlying25 Try.underlying22 cells22 (hval 1 25 v1 rfl rfl) h1
  refine Calls.mono (natTextsL s.data.toList v1 l (fun x hx => wf_u64 (hw x hx)) W hl) fun e W' he => ?_
  obtain ⟨v, hev, hrt, hG⟩ := he
  subst hev hrt
  exact ⟨_, rfl, post_below tryLaid natTexts_params rfl hW' hG.below rfl rfl rfl rfl Try.underlying4⟩


theorem natTexts_holds : Rows.NatTextsSaid :=
  OpenClaim.holds_of_wide 4 Try.f4 rfl rfl rfl rfl rfl rfl rfl ⟨rfl, rfl, rfl, rfl, rfl⟩ rfl rfl rfl rfl rfl (by kernel_rfl) Try.func4 (by kernel_rfl)
    (of_decide_eq_true (by kernel_rfl)) (by unfold Func.isWrapper; first | (rw [if_pos (by decide +kernel)]; kernel_rfl) | (rw [if_neg (by decide +kernel)]; exact ⟨rfl, rfl⟩))
    (fun os started H enc _ => natTexts_lifted os started H enc)

end Go.Proofs.Ytnddfmjmeghkjaa
