/- ParseFloats: the reading of any texts by any kinds over one cache is the document's, and the texts stay; no condition. -/
import Derived.Test.YtjcbdogohjafdaaGreatQj
import Derived.Test.YtjcbdogohjafdaaGreatRows
set_option linter.unusedVariables false
set_option linter.unusedSimpArgs false
set_option maxRecDepth 10000
namespace Go.Proofs.YtjcbdogohjafdaaGreat
open Go.Vc Go.RowKit Go.Proofs.YtjcbdogohjafdaaGreat.W
open Go.ChangeShapes Go.WideShapes Go.ChangeAt Go.ChangeMaps
theorem tryOwn : ownKnob Tryz.prog.godebug = none := by kernel_rfl
theorem tryLaid : laidOutB Tryz.prog = true := by kernel_rfl
theorem cells5 : Tryz.prog.cellsOf 5 = 1 := by kernel_rfl
theorem cells26 : Tryz.prog.cellsOf 26 = 1 := by kernel_rfl

theorem parseFloats_params : ∀ t ∈ Tryz.f3.params.toList, Tryz.prog.readableRec t = true ∧ t < Tryz.prog.types.size := by
  have h : (Tryz.f3.params.toList.all fun t => Tryz.prog.readableRec t && decide (t < Tryz.prog.types.size)) = true := by kernel_rfl
  intro t ht
  have := List.all_eq_true.1 h t ht
  simpa using this


set_option maxRecDepth 100000 in
theorem parseFloats_lifted (os : Os) (started : os.Started) (H : Type) (enc : TypeId × Value → H) :
    ReturnsInHanded {} Tryz.checked os 3 .any (Rows.parseFloatsSpec.pre6 enc Tryz.prog Tryz.f3 Rows.parseFloatsRow.domain false) (Rows.parseFloatsSpec.post enc Tryz.prog Tryz.f3 false true false false) := by
  refine returnsInHanded_of_change (C := Tryz.checked) tryOwn started (by kernel_rfl) Tryz.func3
    (ChangeSpec.witness6 (enc := enc) (C := Tryz.checked) false ⟨#[], #[.int .i64 0, .slice none 0 0], []⟩ 8 (by kernel_rfl) (by kernel_rfl) (by kernel_rfl) (by kernel_rfl)) ?_
  intro W base args ds gs before hval0 hW hcnd _
  have hval : ∀ (j : Nat) t v, Tryz.f3.params[j]? = some t → args[j]? = some v → Value.okWide Tryz.prog W .any base t v := hval0
  have hW' := hW
  obtain ⟨p, q, hA0, hV, rfl, hfz, hnd⟩ := hW
  have hA : DataW.TrodAll enc Tryz.prog W 0 (fun _ => true) true Tryz.f3.params.toList args.toList ds p := hA0
  rw [Tryz.params3] at hA hval
  obtain ⟨v0, v1, d0, d1, p0, p1, rfl, rfl, rfl, h0, h1⟩ := trodAll_two hA
  obtain ⟨rfl, rfl⟩ := trodVars_none hV
  obtain ⟨n, rfl, hn⟩ := open_i64 Tryz.underlying3 (hval 0 3 v0 rfl rfl)
  obtain ⟨rs, ⟨A0, c0, rfl, hc0, hsl0⟩, hrs⟩ := open_rows Tryz.underlying22 cells26 (hval 1 22 v1 rfl rfl) h1
  have hlen : rs.flatten.length = rs.length := by have := Z5O (k := 1) rs (fun x hx => (hrs x hx).1); omega
  have hik : IV _ (.slice A0 rs.length c0) rs.flatten := ⟨A0, c0, by rw [hlen], by omega, hsl0⟩
  have hcs : ∀ (i : Nat) x, rs.flatten[i]? = some x → ∃ l, IB _ x l := fun i x hx => by
    obtain ⟨r, hr, hxr⟩ := List.mem_flatten.1 (List.mem_of_getElem? hx)
    obtain ⟨_, fuel, y, hy⟩ := hrs r hr
    obtain ⟨v, l, rfl, hv⟩ := cells_bytes Tryz.underlying26 Tryz.underlying5 cells5 hy
    rw [List.mem_singleton.1 hxr]
    exact ⟨l, hv⟩
  refine Calls.mono (parseFloatsL n hn _ rs.flatten W hik hcs) fun e W' he => ?_
  obtain ⟨v, hev, hrt, hG⟩ := he
  subst hev hrt
  exact ⟨_, rfl, Z3i tryLaid parseFloats_params rfl hW' hG.below rfl rfl rfl rfl Tryz.underlying4⟩


theorem parseFloats_holds : Rows.ParseFloatsSaid :=
  OpenClaim.holds_of_wide 3 Tryz.f3 rfl rfl rfl rfl rfl rfl rfl ⟨rfl, rfl, rfl, rfl, rfl⟩ rfl rfl rfl rfl rfl (by kernel_rfl) Tryz.func3 (by kernel_rfl)
    (of_decide_eq_true (by kernel_rfl)) (by unfold Func.isWrapper; first | (rw [if_pos (by decide +kernel)]; kernel_rfl) | (rw [if_neg (by decide +kernel)]; exact ⟨rfl, rfl⟩))
    (fun os started H enc _ => parseFloats_lifted os started H enc)

end Go.Proofs.YtjcbdogohjafdaaGreat
