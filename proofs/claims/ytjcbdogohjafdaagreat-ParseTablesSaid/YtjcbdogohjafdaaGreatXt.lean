/- ParseTables: what the table alone tells of any decimal number by any kind is the document's; no condition. -/
import Derived.Test.YtjcbdogohjafdaaGreatQj
import Derived.Test.YtjcbdogohjafdaaGreatRows
set_option linter.unusedVariables false
set_option linter.unusedSimpArgs false
set_option maxRecDepth 10000
namespace Go.Proofs.YtjcbdogohjafdaaGreat
open Go.Vc Go.RowKit Go.Proofs.YtjcbdogohjafdaaGreat.W
open Go.ChangeShapes Go.WideShapes Go.ChangeAt Go.ChangeMaps
theorem tryOwn : ownKnob Tryz.prog.godebug = none := by kernel_rfl
theorem tryLaid : laidOutB Tryz.prog = true := by kernel_rfl
theorem cells3 : Tryz.prog.cellsOf 3 = 1 := by kernel_rfl
theorem cells4 : Tryz.prog.cellsOf 4 = 1 := by kernel_rfl
theorem cells30 : Tryz.prog.cellsOf 30 = 1 := by kernel_rfl
theorem cells40 : Tryz.prog.cellsOf 40 = 5 := by kernel_rfl

theorem parseTables_params : ∀ t ∈ Tryz.f4.params.toList, Tryz.prog.readableRec t = true ∧ t < Tryz.prog.types.size := by
  have h : (Tryz.f4.params.toList.all fun t => Tryz.prog.readableRec t && decide (t < Tryz.prog.types.size)) = true := by kernel_rfl
  intro t ht
  have := List.all_eq_true.1 h t ht
  simpa using this


set_option maxRecDepth 100000 in
theorem parseTables_lifted (os : Os) (started : os.Started) (H : Type) (enc : TypeId × Value → H) :
    ReturnsInHanded {} Tryz.checked os 4 .any (Rows.parseTablesSpec.pre6 enc Tryz.prog Tryz.f4 Rows.parseTablesRow.domain false) (Rows.parseTablesSpec.post enc Tryz.prog Tryz.f4 false true false false) := by
  refine returnsInHanded_of_change (C := Tryz.checked) tryOwn started (by kernel_rfl) Tryz.func4
    (ChangeSpec.witness6 (enc := enc) (C := Tryz.checked) false ⟨#[], #[.int .i64 0, .agg #[.bool false, .int .i64 0, .int .u64 0, .int .i64 0, .bool false]], []⟩ 8 (by kernel_rfl) (by kernel_rfl) (by kernel_rfl) (by kernel_rfl)) ?_
  intro W base args ds gs before hval0 hW hcnd _
  have hval : ∀ (j : Nat) t v, Tryz.f4.params[j]? = some t → args[j]? = some v → Value.okWide Tryz.prog W .any base t v := hval0
  have hW' := hW
  obtain ⟨p, q, hA0, hV, rfl, hfz, hnd⟩ := hW
  have hA : DataW.TrodAll enc Tryz.prog W 0 (fun _ => true) true Tryz.f4.params.toList args.toList ds p := hA0
  rw [Tryz.params4] at hA hval
  obtain ⟨v0, v1, d0, d1, p0, p1, rfl, rfl, rfl, h0, h1⟩ := trodAll_two hA
  obtain ⟨rfl, rfl⟩ := trodVars_none hV
  obtain ⟨n, rfl, hn⟩ := Z3H Tryz.underlying3 (hval 0 3 v0 rfl rfl)
  obtain ⟨hcl, hfl⟩ := trod_field Tryz.underlying40 h1
  obtain ⟨cs, rfl, _⟩ := okWide_struct Tryz.underlying40 (hval 1 40 v1 rfl rfl)
  obtain ⟨_, _, hq0⟩ := hfl 0 _ rfl
  obtain ⟨_, _, hq1⟩ := hfl 1 _ rfl
  obtain ⟨_, _, hq2⟩ := hfl 2 _ rfl
  obtain ⟨_, _, hq3⟩ := hfl 3 _ rfl
  obtain ⟨_, _, hq4⟩ := hfl 4 _ rfl
  obtain ⟨ng, he0, _⟩ := DataW.trod_bool Tryz.underlying4 hq0
  obtain ⟨wd, he1, _, _⟩ := DataW.trod_int Tryz.underlying3 hq1
  obtain ⟨man, he2, _, hw2⟩ := DataW.trod_int Tryz.underlying30 hq2
  obtain ⟨x, he3, _, hw3⟩ := DataW.trod_int Tryz.underlying3 hq3
  obtain ⟨more, he4, _⟩ := DataW.trod_bool Tryz.underlying4 hq4
  have hcs : cs = #[.bool ng, .int .i64 wd, .int .u64 man, .int .i64 x, .bool more] := by
    simp only [cells3] at he1 he3
    simp only [cells4] at he0 he4
    simp only [cells30] at he2
    exact five_cells (hcl.trans cells40) he0 he1 he2 he3 he4
  subst hcs
  refine Calls.mono (parseTablesL n hn ng wd man x more (u64_wf hw2) (i64_wf hw3) W) fun e W' he => ?_
  obtain ⟨v, hev, hrt, hG⟩ := he
  subst hev hrt
  exact ⟨_, rfl, post_below tryLaid parseTables_params rfl hW' hG.below rfl rfl rfl rfl Tryz.underlying4⟩


theorem parseTables_holds : Rows.ParseTablesSaid :=
  OpenClaim.holds_of_wide 4 Tryz.f4 rfl rfl rfl rfl rfl rfl rfl ⟨rfl, rfl, rfl, rfl, rfl⟩ rfl rfl rfl rfl rfl (by kernel_rfl) Tryz.func4 (by kernel_rfl)
    (of_decide_eq_true (by kernel_rfl)) (by unfold Func.isWrapper; first | (rw [if_pos (by decide +kernel)]; kernel_rfl) | (rw [if_neg (by decide +kernel)]; exact ⟨rfl, rfl⟩))
    (fun os started H enc _ => parseTables_lifted os started H enc)

end Go.Proofs.YtjcbdogohjafdaaGreat
