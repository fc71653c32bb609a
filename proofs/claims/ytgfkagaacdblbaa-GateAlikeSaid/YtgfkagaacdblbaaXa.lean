/- GateAlike: two schedules of the same asks: all hands have read the same. -/
import Derived.Test.YtgfkagaacdblbaaZb
import Derived.Test.YtgfkagaacdblbaaRows
set_option linter.unusedVariables false
set_option linter.unusedSimpArgs false
set_option maxRecDepth 10000
namespace Go.Proofs.Ytgfkagaacdblbaa
open Go.Vc Go.RowKit Go.Proofs.Ytgfkagaacdblbaa.W
open Go.ChangeShapes Go.WideShapes Go.ChangeAt Go.ChangeMaps
theorem tryOwn : ownKnob Try.prog.godebug = none := by kernel_rfl
theorem tryLaid : laidOutB Try.prog = true := by kernel_rfl
theorem cells3 : Try.prog.cellsOf 3 = 1 := by kernel_rfl
theorem cells23 : Try.prog.cellsOf 23 = 1 := by kernel_rfl

theorem gateAlike_params : ∀ t ∈ Try.f3.params.toList, Try.prog.readableRec t = true ∧ t < Try.prog.types.size := by
  have h : (Try.f3.params.toList.all fun t => Try.prog.readableRec t && decide (t < Try.prog.types.size)) = true := by kernel_rfl
  intro t ht
  have := List.all_eq_true.1 h t ht
  simpa using this


set_option maxRecDepth 100000 in
theorem gateAlike_lifted (os : Os) (started : os.Started) (H : Type) (enc : TypeId × Value → H) :
    ReturnsInHanded {} Try.checked os 3 .any (Rows.gateAlikeSpec.pre6 enc Try.prog Try.f3 Rows.gateAlikeRow.domain false) (Rows.gateAlikeSpec.post enc Try.prog Try.f3 false true false false) := by
  refine returnsInHanded_of_change (C := Try.checked) tryOwn started (by kernel_rfl) Try.func3
    (ChangeSpec.witness6 (enc := enc) (C := Try.checked) false ⟨#[], #[.slice none 0 0, .slice none 0 0, .slice none 0 0], []⟩ 8 (by kernel_rfl) (by kernel_rfl) (by kernel_rfl) (by kernel_rfl)) ?_
  intro W base args ds gs before hval0 hW hcnd _
  have hval : ∀ (j : Nat) t v, Try.f3.params[j]? = some t → args[j]? = some v → Value.okWide Try.prog W .any base t v := hval0
  have hW' := hW
  obtain ⟨p, q, hA0, hV, rfl, hfz, hnd⟩ := hW
  have hA : DataW.TrodAll enc Try.prog W 0 (fun _ => true) true Try.f3.params.toList args.toList ds p := hA0
  rw [Try.params3] at hA hval
  obtain ⟨v0, v1, v2, d0, d1, d2, p0, p1, p2, rfl, rfl, rfl, h0, h1, h2⟩ := trodAll_three hA
  obtain ⟨rfl, rfl⟩ := trodVars_none hV
  obtain ⟨vs, ls, hvl, hrg, hv, hvs⟩ := open_asks Try.underlying22 Try.underlying23 Try.underlying3 cells23 cells3 (hval 0 22 v0 rfl rfl) h0
  obtain ⟨l1, hl1, hwl1⟩ := open_words Try.underlying23 Try.underlying3 cells3 (hval 1 23 v1 rfl rfl) h1
  have hrl1 : Rg (-9223372036854775808) 9223372036854775807 l1 := fun x hx => i64_wf (hwl1 x hx)
  obtain ⟨l2, hl2, hwl2⟩ := open_words Try.underlying23 Try.underlying3 cells3 (hval 2 23 v2 rfl rfl) h2
  have hrl2 : Rg (-9223372036854775808) 9223372036854775807 l2 := fun x hx => i64_wf (hwl2 x hx)
  refine Calls.mono (gateAlikeL v0 vs ls hvl hrg v1 v2 l1 l2 hrl1 hrl2 W hv hvs hl1 hl2) fun e W' he => ?_
  obtain ⟨v, hev, hrt, hG⟩ := he
  subst hev hrt
  exact ⟨_, rfl, post_below tryLaid gateAlike_params rfl hW' hG.below rfl rfl rfl rfl Try.underlying4⟩


theorem gateAlike_holds : Rows.GateAlikeSaid :=
  OpenClaim.holds_of_wide 3 Try.f3 rfl rfl rfl rfl rfl rfl rfl ⟨rfl, rfl, rfl, rfl, rfl⟩ rfl rfl rfl rfl rfl (by kernel_rfl) Try.func3 (by kernel_rfl)
    (of_decide_eq_true (by kernel_rfl)) (by unfold Func.isWrapper; first | (rw [if_pos (by decide +kernel)]; kernel_rfl) | (rw [if_neg (by decide +kernel)]; exact ⟨rfl, rfl⟩))
    (fun os started H enc _ => gateAlike_lifted os started H enc)

end Go.Proofs.Ytgfkagaacdblbaa
