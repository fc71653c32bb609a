/- GateExact: any asks, any ops: each answer, and what is asked behind it, is the document's. -/
import Derived.Test.YtgfkagaacdblbaaGreatZj
import Derived.Test.YtgfkagaacdblbaaGreatRows
set_option linter.unusedVariables false
set_option linter.unusedSimpArgs false
set_option maxRecDepth 10000
namespace Go.Proofs.YtgfkagaacdblbaaGreat
open Go.Vc Go.RowKit Go.Proofs.YtgfkagaacdblbaaGreat.W
open Go.ChangeShapes Go.WideShapes Go.ChangeAt Go.ChangeMaps
theorem tryOwn : ownKnob Tryz.prog.godebug = none := by kernel_rfl
theorem tryLaid : laidOutB Tryz.prog = true := by kernel_rfl
theorem cells3 : Tryz.prog.cellsOf 3 = 1 := by kernel_rfl
theorem cells34 : Tryz.prog.cellsOf 34 = 1 := by kernel_rfl
theorem cells36 : Tryz.prog.cellsOf 36 = 4 := by kernel_rfl

theorem gateExact_params : ∀ t ∈ Tryz.f3.params.toList, Tryz.prog.readableRec t = true ∧ t < Tryz.prog.types.size := by
  have h : (Tryz.f3.params.toList.all fun t => Tryz.prog.readableRec t && decide (t < Tryz.prog.types.size)) = true := by kernel_rfl
  intro t ht
  have := List.all_eq_true.1 h t ht
  simpa using this


set_option maxRecDepth 100000 in
theorem gateExact_lifted (os : Os) (started : os.Started) (H : Type) (enc : TypeId × Value → H) :
    ReturnsInHanded {} Tryz.checked os 3 .any (Rows.gateExactSpec.pre6 enc Tryz.prog Tryz.f3 Rows.gateExactRow.domain false) (Rows.gateExactSpec.post enc Tryz.prog Tryz.f3 false true false false) := by
  refine returnsInHanded_of_change (C := Tryz.checked) tryOwn started (by kernel_rfl) Tryz.func3
    (ChangeSpec.witness6 (enc := enc) (C := Tryz.checked) false ⟨#[], #[.slice none 0 0, .bool false, .slice none 0 0], []⟩ 8 (by kernel_rfl) (by kernel_rfl) (by kernel_rfl) (by kernel_rfl)) ?_
  intro W base args ds gs before hval0 hW hcnd _
  have hval : ∀ (j : Nat) t v, Tryz.f3.params[j]? = some t → args[j]? = some v → Value.okWide Tryz.prog W .any base t v := hval0
  have hW' := hW
  obtain ⟨p, q, hA0, hV, rfl, hfz, hnd⟩ := hW
  have hA : DataW.TrodAll enc Tryz.prog W 0 (fun _ => true) true Tryz.f3.params.toList args.toList ds p := hA0
  rw [Tryz.params3] at hA hval
  obtain ⟨v0, v1, v2, d0, d1, d2, p0, p1, p2, rfl, rfl, rfl, h0, h1, h2⟩ := trodAll_three hA
  obtain ⟨rfl, rfl⟩ := trodVars_none hV
  obtain ⟨vs, ls, hvl, hrg, hv, hvs⟩ := open_asks Tryz.underlying22 Tryz.underlying34 Tryz.underlying3 cells34 cells3 (hval 0 22 v0 rfl rfl) h0
  obtain ⟨may, rfl, _⟩ := Go.RowKit.open_bool Tryz.underlying4 (hval 1 4 v1 rfl rfl) h1
  obtain ⟨rs, ⟨A0, c0, rfl, hc0, hsl0⟩, hrs⟩ := open_rows Tryz.underlying23 cells36 (hval 2 23 v2 rfl rfl) h2
  have hok : ∀ r ∈ rs, OpOk _ r := fun r hr => by
    obtain ⟨hrl, fuel, y, hy⟩ := hrs r hr
    obtain ⟨_, hfl⟩ := cells_field Tryz.underlying36 hy
    obtain ⟨_, _, hq0⟩ := hfl 0 _ rfl
    obtain ⟨_, _, hq1⟩ := hfl 1 _ rfl
    obtain ⟨_, _, hq2⟩ := hfl 2 _ rfl
    obtain ⟨_, _, hq3⟩ := hfl 3 _ rfl
    obtain ⟨d, he0, _, hw0⟩ := DataW.trod_int Tryz.underlying3 hq0
    obtain ⟨n, he1, _, hw1⟩ := DataW.trod_int Tryz.underlying3 hq1
    obtain ⟨lv, ll, he2, hlv, hrl2, hone⟩ := cells_ints Tryz.underlying34 Tryz.underlying3 cells3 hq2
    obtain ⟨k, he3, _, hw3⟩ := DataW.trod_int Tryz.underlying3 hq3
    simp only [cells3] at he0 he1 he3
    simp only [cells34] at he2
    exact ⟨d, n, lv, ll, k, four_cells hrl he0 he1 he2 he3, i64_wf hw0, i64_wf hw1, hone, hrl2, hlv⟩
  have hik : IK _ 4 (.slice A0 rs.length c0) rs := ⟨OpOk.rows hok, A0, c0, rfl, hc0, hsl0⟩
  refine Calls.mono (gateExactL v0 vs ls hvl hrg may _ rs W hv hvs hik hok) fun e W' he => ?_
  obtain ⟨v, hev, hrt, hG⟩ := he
  subst hev hrt
  exact ⟨_, rfl, post_below tryLaid gateExact_params rfl hW' hG.below rfl rfl rfl rfl Tryz.underlying4⟩


theorem gateExact_holds : Rows.GateExactSaid :=
  OpenClaim.holds_of_wide 3 Tryz.f3 rfl rfl rfl rfl rfl rfl rfl ⟨rfl, rfl, rfl, rfl, rfl⟩ rfl rfl rfl rfl rfl (by kernel_rfl) Tryz.func3 (by kernel_rfl)
    (of_decide_eq_true (by kernel_rfl)) (by unfold Func.isWrapper; first | (rw [if_pos (by decide +kernel)]; kernel_rfl) | (rw [if_neg (by decide +kernel)]; exact ⟨rfl, rfl⟩))
    (fun os started H enc _ => gateExact_lifted os started H enc)

end Go.Proofs.YtgfkagaacdblbaaGreat
