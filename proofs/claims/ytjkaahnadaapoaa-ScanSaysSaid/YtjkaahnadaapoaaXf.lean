/- the row of ScanSays: of a number that is written down, Man times 10^Exp is its digits, or their first 19 and More; no condition -/
import Derived.Test.YtjkaahnadaapoaaSo
import Derived.Test.YtjkaahnadaapoaaRows
set_option linter.unusedVariables false
set_option linter.unusedSimpArgs false
set_option maxRecDepth 10000
namespace Go.Proofs.Ytjkaahnadaapoaa
open Go.Vc Go.RowKit Go.Proofs.Ytjkaahnadaapoaa.W
open Go.ChangeShapes Go.WideShapes Go.ChangeAt Go.ChangeMaps
theorem tryOwn : ownKnob Try.prog.godebug = none := by kernel_rfl
theorem tryLaid : laidOutB Try.prog = true := by kernel_rfl
theorem cells5 : Try.prog.cellsOf 5 = 1 := by kernel_rfl
theorem cells22 : Try.prog.cellsOf 22 = 1 := by kernel_rfl
theorem cells3 : Try.prog.cellsOf 3 = 1 := by kernel_rfl
theorem cells4 : Try.prog.cellsOf 4 = 1 := by kernel_rfl
theorem cells38 : Try.prog.cellsOf 38 = 7 := by kernel_rfl

theorem scanSays_params : ∀ t ∈ Try.f8.params.toList, Try.prog.readableRec t = true ∧ t < Try.prog.types.size := by
  have h : (Try.f8.params.toList.all fun t => Try.prog.readableRec t && decide (t < Try.prog.types.size)) = true := by kernel_rfl
  intro t ht
  have := List.all_eq_true.1 h t ht
  simpa using this


set_option maxRecDepth 100000 in
theorem scanSays_lifted (os : Os) (started : os.Started) (H : Type) (enc : TypeId × Value → H) :
    ReturnsInHanded {} Try.checked os 8 .any (Rows.scanSaysSpec.pre6 enc Try.prog Try.f8 Rows.scanSaysRow.domain false) (Rows.scanSaysSpec.post enc Try.prog Try.f8 false true false false) := by
  refine returnsInHanded_of_change (C := Try.checked) tryOwn started (by kernel_rfl) Try.func8
    (ChangeSpec.witness6 (enc := enc) (C := Try.checked) false ⟨#[], #[.agg #[.slice none 0 0, .slice none 0 0, .int .i64 0, .bool false, .bool false, .bool false, .bool false]], []⟩ 8 (by kernel_rfl) (by kernel_rfl) (by kernel_rfl) (by kernel_rfl)) ?_
  intro W base args ds gs before hval0 hW hcnd _
  have hval : ∀ (j : Nat) t v, Try.f8.params[j]? = some t → args[j]? = some v → Value.okWide Try.prog W .any base t v := hval0
  have hW' := hW
  obtain ⟨p, q, hA0, hV, rfl, hfz, hnd⟩ := hW
  have hA : DataW.TrodAll enc Try.prog W 0 (fun _ => true) true Try.f8.params.toList args.toList ds p := hA0
  rw [Try.params8] at hA hval
  obtain ⟨v0, d0, rfl, rfl, h0⟩ := trodAll_one hA
  obtain ⟨rfl, rfl⟩ := trodVars_none hV
  obtain ⟨hcl, hfl⟩ := trod_field Try.underlying38 h0
  obtain ⟨cs, rfl, _⟩ := okWide_struct Try.underlying38 (hval 0 38 v0 rfl rfl)
  obtain ⟨_, _, hq0⟩ := hfl 0 _ rfl
  obtain ⟨_, _, hq1⟩ := hfl 1 _ rfl
  obtain ⟨_, _, hq2⟩ := hfl 2 _ rfl
  obtain ⟨_, _, hq3⟩ := hfl 3 _ rfl
  obtain ⟨_, _, hq4⟩ := hfl 4 _ rfl
  obtain ⟨_, _, hq5⟩ := hfl 5 _ rfl
  obtain ⟨_, _, hq6⟩ := hfl 6 _ rfl
  obtain ⟨wv, wl, he0, hwv⟩ := cells_bytes Try.underlying22 Try.underlying5 cells5 hq0
  obtain ⟨bv, bl, he1, hbv⟩ := cells_bytes Try.underlying22 Try.underlying5 cells5 hq1
  obtain ⟨x0, he2, _, hwf⟩ := DataW.trod_int Try.underlying3 hq2
  obtain ⟨neg, he3, _⟩ := DataW.trod_bool Try.underlying4 hq3
  obtain ⟨point, he4, _⟩ := DataW.trod_bool Try.underlying4 hq4
  obtain ⟨plus, he5, _⟩ := DataW.trod_bool Try.underlying4 hq5
  obtain ⟨great, he6, _⟩ := DataW.trod_bool Try.underlying4 hq6
  have hcs : cs = #[wv, bv, .int .i64 x0, .bool neg, .bool point, .bool plus, .bool great] := by
    simp only [cells22] at he0 he1
    simp only [cells3] at he2
    simp only [cells4] at he3 he4 he5 he6
    exact seven_cells (hcl.trans cells38) he0 he1 he2 he3 he4 he5 he6
  subst hcs
  refine Calls.mono (scanSaysL wv bv wl bl x0 neg point plus great W hwv hbv) fun e W' he => ?_
  obtain ⟨v, hev, hrt, hG⟩ := he
  subst hev hrt
  exact ⟨_, rfl, post_below tryLaid scanSays_params rfl hW' hG.below rfl rfl rfl rfl Try.underlying4⟩


theorem scanSays_holds : Rows.ScanSaysSaid :=
  OpenClaim.holds_of_wide 8 Try.f8 rfl rfl rfl rfl rfl rfl rfl ⟨rfl, rfl, rfl, rfl, rfl⟩ rfl rfl rfl rfl rfl (by kernel_rfl) Try.func8 (by kernel_rfl)
    (of_decide_eq_true (by kernel_rfl)) (by unfold Func.isWrapper; first | (rw [if_pos (by decide +kernel)]; kernel_rfl) | (rw [if_neg (by decide +kernel)]; exact ⟨rfl, rfl⟩))
    (fun os started H enc _ => scanSays_lifted os started H enc)

end Go.Proofs.Ytjkaahnadaapoaa
