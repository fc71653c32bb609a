/- PrintNear: what Fixed writes is within half a unit of its last place, for every input, over the listed tables of Go's library. -/
import Derived.Test.YtojjlipcjdaejaaDoorPt
import Derived.SevenTiedAt
import Derived.Test.YtojjlipcjdaejaaDoorTie
import Derived.Test.YtojjlipcjdaejaaDoorCards
import Derived.Stop.Joined
import Derived.LaidHandle
import Derived.LaidLaws
import Derived.RowKitTokens
import Derived.RowKit
import Derived.JoinedOf
import Derived.Test.YtojjlipcjdaejaaDoorRows
set_option linter.unusedVariables false
set_option linter.unusedSimpArgs false
set_option maxRecDepth 10000
namespace Go.Proofs.YtojjlipcjdaejaaDoor
open Go.Vc Go.RowKit Go.Proofs.YtojjlipcjdaejaaDoor.W
open Go.ChangeShapes Go.WideShapes Go.ChangeAt Go.ChangeMaps
theorem tryOwn : ownKnob Tryd.prog.godebug = none := by kernel_rfl
theorem tryLaid : laidOutB Tryd.prog = true := by kernel_rfl
theorem gT : Tryd.prog.globalNamed "internal/strconv.uint64pow10" = some 2 := by kernel_rfl
theorem gTt : (Tryd.prog.globals[2]?).map (·.type) = some 137 := by kernel_rfl
theorem cellsU : Tryd.prog.cellsOf 22 = 1 := by kernel_rfl
theorem cellsT : Tryd.prog.cellsOf 137 = 20 := by kernel_rfl
theorem tab_of_laid {W : World} (h : laidMetH Tryd.prog Rows.printNearRow.laid W) : TabP W := by
  have h1 : laidMet Tryd.prog Rows.printNearRow.laid W := h
  obtain ⟨ps, ⟨_, _, _, _, _, _, _, _, _, _, h2, _⟩, _⟩ := h1
  obtain ⟨_, _, _, _, _, _, _, _, _, _, h3, _⟩ := h2
  obtain ⟨g', t', cs, fuel, p, q, hg', ht', hvar, hd, _, _⟩ := h3
  obtain rfl := Option.some.inj (gT.symm.trans hg')
  obtain rfl := Option.some.inj (gTt.symm.trans ht')
  unfold TabP Lib.TabIs
  rw [hvar, ← Lib.cells_of_tab (zs := Lib.pow10Tab) (k := .u64) Tryd.underlying137 Tryd.underlying22 cellsU cellsT hd]
def tabVals (D : DataW Unit) : Array Value := match D with
  | .agg l => (l.map fun | .lit (.int k z) => .int k z | _ => .bool false).toArray
  | _ => #[]
def layAt (w : World) (g : Nat) (D : DataW Unit) : World := { w with heap := w.heap.modify g fun
  | .cells _ t frozen => .cells (tabVals D) t frozen
  | o => o }
noncomputable def laidWorld (os : Os) : World := layAt (layAt (layAt (World.holding Tryd.prog os ⟨#[], #[], []⟩) 2 Rows.laid_internal_strconv_uint64pow10) 3 Rows.laid_math_bits_deBruijn32tab) 4 Rows.laid_math_bits_deBruijn64tab
theorem laidWorld_met (os : Os) (args : Array Value) : laidMetH Tryd.prog Rows.printNearRow.laid ((laidWorld os).forCall (fun _ _ => 0) ⟨#[], args, []⟩).memory := by
  show laidMet _ _ _
  exact laidMet_of_run' 8 (by kernel_rfl) (by kernel_rfl)
theorem printNear_params : ∀ t ∈ Tryd.f3.params.toList, Tryd.prog.readableRec t = true ∧ t < Tryd.prog.types.size := by
  have h : (Tryd.f3.params.toList.all fun t => Tryd.prog.readableRec t && decide (t < Tryd.prog.types.size)) = true := by kernel_rfl
  intro t ht
  have := List.all_eq_true.1 h t ht
  simpa using this
set_option maxRecDepth 100000 in
theorem printNear_lifted (os : Os) (started : os.Started) (H : Type) (enc : TypeId × Value → H) :
    ReturnsInHanded {} Tryd.checked os 3 .any (fun w args => (Rows.printNearSpec.pre enc Tryd.prog Tryd.f3 [] false w args ∧ laidMetH Tryd.prog Rows.printNearRow.laid w) ∧ sizedMet enc Tryd.prog Tryd.f3 (OpenSpec.ofChange Rows.printNearSpec) false w args) (Rows.printNearSpec.post enc Tryd.prog Tryd.f3 false true false false) := by
  refine returnsInHanded_of_change_and (C := Tryd.checked) (X := fun w _ => laidMetH Tryd.prog Rows.printNearRow.laid w) (fun _ _ _ hh h => h.of_heap hh) tryOwn started (by kernel_rfl) Tryd.func3
    (ChangeSpec.witness_at (enc := enc) (C := Tryd.checked) (os := os) (X := fun w _ => laidMetH Tryd.prog Rows.printNearRow.laid w) false (laidWorld os) #[.int .i64 0, .int .u64 0, .int .i64 0] 8 rfl (by kernel_rfl) (by kernel_rfl) (by kernel_rfl) (by kernel_rfl) (by kernel_rfl) (laidWorld_met os _)) ?_
  intro W base args ds gs before hval0 hW _ _ hL _
  have hval : ∀ (j : Nat) t v, Tryd.f3.params[j]? = some t → args[j]? = some v → Value.okWide Tryd.prog W .any base t v := hval0
  have hW' := hW
  obtain ⟨p, q, hA0, hV0, rfl, hfz, hnd⟩ := hW
  have hA : DataW.TrodAll enc Tryd.prog W 0 (fun _ => true) true Tryd.f3.params.toList args.toList ds p := hA0
  have hV : DataW.TrodVars enc Tryd.prog W (fun _ => true) [] gs q := hV0
  rw [Tryd.params3] at hA hval
  obtain ⟨v0, v1, v2, d0, d1, d2, p0, p1, p2, rfl, rfl, rfl, h0, h1, h2⟩ := trodAll_three hA
  obtain ⟨rfl, rfl⟩ := trodVars_none hV
  obtain ⟨n, rfl, hn⟩ := open_i64 Tryd.underlying3 (hval 0 3 v0 rfl rfl)
  obtain ⟨b, rfl, hb⟩ := open_u64 Tryd.underlying22 (hval 1 22 v1 rfl rfl)
  obtain ⟨m, rfl, hm⟩ := open_i64 Tryd.underlying3 (hval 2 3 v2 rfl rfl)
  refine Calls.mono (printNearL n b m hn hb hm W (tab_of_laid hL)) fun e W' he => ?_
  obtain ⟨v, hev, hrt, hG⟩ := he
  subst hev hrt
  exact ⟨_, rfl, post_below tryLaid printNear_params rfl hW' hG.below rfl rfl rfl rfl Tryd.underlying4⟩
theorem printNear_holds : Rows.PrintNearSaid :=
  OpenClaim.holds_of_wide 3 Tryd.f3 rfl rfl rfl rfl rfl rfl rfl ⟨rfl, rfl, rfl, rfl, rfl⟩ rfl rfl rfl rfl rfl (by kernel_rfl) Tryd.func3 (by kernel_rfl)
    (of_decide_eq_true (by kernel_rfl)) (by unfold Func.isWrapper; first | (rw [if_pos (by decide +kernel)]; kernel_rfl) | (rw [if_neg (by decide +kernel)]; exact ⟨rfl, rfl⟩))
    (fun os started H enc _ => printNear_lifted os started H enc)
theorem printNear_card : Rows.PrintNearCardSaid :=
  Claim7.holds_tied_plain_at .later [] [.data, .data, .data] true (true, "4d8c2d083c2243899047abc51c65c1d128e0b0240e7c5ec3cc3fb8c9ccae1ef8") false
    printNear_holds (fun _ h => by cases h) (by kernel_rfl) (fun _ h => by cases h) printNear_row_tie rfl ⟨rfl, rfl⟩ (by kernel_rfl) rfl
    (fun f fn hf hfn => by
      obtain rfl : f = 3 := Option.some.inj ((show Tryd.prog.funcNamed "mintage/mintagelaw11.PrintNear" = some 3 by kernel_rfl).symm.trans hf) |>.symm
      obtain rfl : fn = Tryd.f3 := (Option.some.inj (Tryd.func3.symm.trans hfn)).symm
      exact ⟨by kernel_rfl, fun j t ht => by
        rw [Tryd.params3] at ht
        have h3 : t = 3 ∨ t = 22 := by
          rcases j with _ | _ | _ | _ <;> simp at ht <;> first | exact .inl ht.symm | exact .inr ht.symm | exact .inr (.inl ht.symm) | exact .inr (.inr ht.symm) | exact ht.symm
        rcases h3 with rfl | rfl
        · exact (show Tryd.prog.wantsStandIn 3 = false by kernel_rfl)
        · exact (show Tryd.prog.wantsStandIn 22 = false by kernel_rfl)⟩)
    (by kernel_rfl)

end Go.Proofs.YtojjlipcjdaejaaDoor
