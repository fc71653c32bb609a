/- the row of BitsJoins: Join of any Man and any Exp is the document's; no condition -/
import Derived.Test.YtidbonodfmicgaaGk
import Derived.Test.YtidbonodfmicgaaRows
set_option linter.unusedVariables false
set_option linter.unusedSimpArgs false
set_option maxRecDepth 10000
namespace Go.Proofs.Ytidbonodfmicgaa
open Go.Vc Go.RowKit Go.Proofs.Ytidbonodfmicgaa.W
open Go.ChangeShapes Go.WideShapes Go.ChangeAt Go.ChangeMaps
theorem tryOwn : ownKnob Try.prog.godebug = none := by kernel_rfl
theorem tryLaid : laidOutB Try.prog = true := by kernel_rfl
theorem cells3 : Try.prog.cellsOf 3 = 1 := by kernel_rfl
theorem cells4 : Try.prog.cellsOf 4 = 1 := by kernel_rfl
theorem cells24 : Try.prog.cellsOf 24 = 1 := by kernel_rfl
theorem cells34 : Try.prog.cellsOf 34 = 3 := by kernel_rfl

theorem bitsJoins_params : ∀ t ∈ Try.f4.params.toList, Try.prog.readableRec t = true ∧ t < Try.prog.types.size := by
  have h : (Try.f4.params.toList.all fun t => Try.prog.readableRec t && decide (t < Try.prog.types.size)) = true := by kernel_rfl
  intro t ht
  have := List.all_eq_true.1 h t ht
  simpa using this


set_option maxRecDepth 100000 in
theorem bitsJoins_lifted (os : Os) (started : os.Started) (H : Type) (enc : TypeId × Value → H) :
    ReturnsInHanded {} Try.checked os 4 .any (Rows.bitsJoinsSpec.pre6 enc Try.prog Try.f4 Rows.bitsJoinsRow.domain false) (Rows.bitsJoinsSpec.post enc Try.prog Try.f4 false true false false) := by
  refine returnsInHanded_of_change (C := Try.checked) tryOwn started (by kernel_rfl) Try.func4
    (ChangeSpec.witness6 (enc := enc) (C := Try.checked) false ⟨#[], #[.int .i64 0, .agg #[.bool false, .int .u64 0, .int .i64 0]], []⟩ 8 (by kernel_rfl) (by kernel_rfl) (by kernel_rfl) (by kernel_rfl)) ?_
  intro W base args ds gs before hval0 hW hcnd _
  have hval : ∀ (j : Nat) t v, Try.f4.params[j]? = some t → args[j]? = some v → Value.okWide Try.prog W .any base t v := hval0
  have hW' := hW
  obtain ⟨p, q, hA0, hV, rfl, hfz, hnd⟩ := hW
  have hA : DataW.TrodAll enc Try.prog W 0 (fun _ => true) true Try.f4.params.toList args.toList ds p := hA0
  rw [Try.params4] at hA hval
  obtain ⟨v0, v1, d0, d1, p0, p1, rfl, rfl, rfl, h0, h1⟩ := trodAll_two hA
  obtain ⟨rfl, rfl⟩ := trodVars_none hV
  obtain ⟨n, rfl, hn⟩ := open_i64 Try.underlying3 (hval 0 3 v0 rfl rfl)
  obtain ⟨hcl, hfl⟩ := trod_field Try.underlying34 h1
  obtain ⟨cs, rfl, _⟩ := okWide_struct Try.underlying34 (hval 1 34 v1 rfl rfl)
  obtain ⟨_, _, hq0⟩ := hfl 0 _ rfl
  obtain ⟨_, _, hq1⟩ := hfl 1 _ rfl
  obtain ⟨_, _, hq2⟩ := hfl 2 _ rfl
  obtain ⟨neg, he0, _⟩ := DataW.trod_bool Try.underlying4 hq0
  obtain ⟨man, he1, _, hwm⟩ := DataW.trod_int Try.underlying24 hq1
  obtain ⟨exp, he2, _, hwe⟩ := DataW.trod_int Try.underlying3 hq2
  have hcs : cs = #[.bool neg, .int .u64 man, .int .i64 exp] := by
    simp only [cells4] at he0
    simp only [cells24] at he1
    simp only [cells3] at he2
    exact three_cells (hcl.trans cells34) he0 he1 he2
  subst hcs
  refine Calls.mono (bitsJoinsL n neg man exp hn (wf_u64 hwm) (wf_i64 hwe) W) fun e W' he => ?_
  obtain ⟨v, hev, hrt, hG⟩ := he
  subst hev hrt
  exact ⟨_, rfl, post_below tryLaid bitsJoins_params rfl hW' hG.below rfl rfl rfl rfl Try.underlying4⟩


theorem bitsJoins_holds : Rows.BitsJoinsSaid :=
  OpenClaim.holds_of_wide 4 Try.f4 rfl rfl rfl rfl rfl rfl rfl ⟨rfl, rfl, rfl, rfl, rfl⟩ rfl rfl rfl rfl rfl (by kernel_rfl) Try.func4 (by kernel_rfl)
    (of_decide_eq_true (by kernel_rfl)) (by unfold Func.isWrapper; first | (rw [if_pos (by decide +kernel)]; kernel_rfl) | (rw [if_neg (by decide +kernel)]; exact ⟨rfl, rfl⟩))
    (fun os started H enc _ => bitsJoins_lifted os started H enc)

end Go.Proofs.Ytidbonodfmicgaa
