/- CellNeeds: of a new cache a reading of any field builds just the segment that is said to be needed, or none, over the listed tables of Go's library. -/
import Derived.Test.YtgjgahmhoflgcaaGreatDoorTl
import Derived.SevenTiedAt
import Derived.Test.YtgjgahmhoflgcaaGreatDoorTie
import Derived.Test.YtgjgahmhoflgcaaGreatDoorCards
import Derived.Stop.Joined
import Derived.LaidHandle
import Derived.LaidLaws
import Derived.RowKitTokens
import Derived.RowKit
import Derived.JoinedOf
import Derived.Test.YtgjgahmhoflgcaaGreatDoorRows
set_option linter.unusedVariables false
set_option linter.unusedSimpArgs false
set_option maxRecDepth 10000
namespace Go.Proofs.YtgjgahmhoflgcaaGreatDoor
open Go.Vc Go.RowKit Go.Proofs.YtgjgahmhoflgcaaGreatDoor.W
open Go.ChangeShapes Go.WideShapes Go.ChangeAt Go.ChangeMaps
theorem tryOwn : ownKnob Tryz.prog.godebug = none := by kernel_rfl
theorem tryLaid : laidOutB Tryz.prog = true := by kernel_rfl
theorem cells3 : Tryz.prog.cellsOf 3 = 1 := by kernel_rfl
theorem cells4 : Tryz.prog.cellsOf 4 = 1 := by kernel_rfl
theorem cells5 : Tryz.prog.cellsOf 5 = 1 := by kernel_rfl
theorem cells25 : Tryz.prog.cellsOf 25 = 1 := by kernel_rfl
theorem cells58 : Tryz.prog.cellsOf 58 = 4 := by kernel_rfl
def tabVals (D : DataW Unit) : Array Value := match D with
  | .agg l => (l.map fun | .lit (.int k z) => .int k z | _ => .bool false).toArray
  | _ => #[]
def layAt (w : World) (g : Nat) (D : DataW Unit) : World := { w with heap := w.heap.modify g fun
  | .cells _ t frozen => .cells (tabVals D) t frozen
  | o => o }
noncomputable def laidWorld (os : Os) : World := layAt (layAt (layAt (World.holding Tryz.prog os ⟨#[], #[], []⟩) 3 Rows.laid_internal_strconv_uint64pow10) 4 Rows.laid_math_bits_deBruijn32tab) 5 Rows.laid_math_bits_deBruijn64tab
theorem laidWorld_met (os : Os) (args : Array Value) : laidMetH Tryz.prog Rows.cellNeedsRow.laid ((laidWorld os).forCall (fun _ _ => 0) ⟨#[], args, []⟩).memory := by
  show laidMet _ _ _
  exact laidMet_of_run' 8 (by kernel_rfl) (by kernel_rfl)
theorem cellNeeds_params : ∀ t ∈ Tryz.f6.params.toList, Tryz.prog.readableRec t = true ∧ t < Tryz.prog.types.size := by
  have h : (Tryz.f6.params.toList.all fun t => Tryz.prog.readableRec t && decide (t < Tryz.prog.types.size)) = true := by kernel_rfl
  intro t ht
  have := List.all_eq_true.1 h t ht
  simpa using this
set_option maxRecDepth 100000 in
theorem cellNeeds_lifted (os : Os) (started : os.Started) (H : Type) (enc : TypeId × Value → H) :
    ReturnsInHanded {} Tryz.checked os 6 .any (fun w args => (Rows.cellNeedsSpec.pre enc Tryz.prog Tryz.f6 [] false w args ∧ laidMetH Tryz.prog Rows.cellNeedsRow.laid w) ∧ sizedMet enc Tryz.prog Tryz.f6 (OpenSpec.ofChange Rows.cellNeedsSpec) false w args) (Rows.cellNeedsSpec.post enc Tryz.prog Tryz.f6 false true false false) := by
  refine returnsInHanded_of_change_and (C := Tryz.checked) (X := fun w _ => laidMetH Tryz.prog Rows.cellNeedsRow.laid w) (fun _ _ _ hh h => h.of_heap hh) tryOwn started (by kernel_rfl) Tryz.func6
    (ChangeSpec.witness_at (enc := enc) (C := Tryz.checked) (os := os) (X := fun w _ => laidMetH Tryz.prog Rows.cellNeedsRow.laid w) false (laidWorld os) #[.int .i64 0, .agg #[.int .i64 0, .int .i64 0, .bool false, .slice none 0 0]] 8 rfl (by kernel_rfl) (by kernel_rfl) (by kernel_rfl) (by kernel_rfl) (by kernel_rfl) (laidWorld_met os _)) ?_
  intro W base args ds gs before hval0 hW _ _ hL _
  have hval : ∀ (j : Nat) t v, Tryz.f6.params[j]? = some t → args[j]? = some v → Value.okWide Tryz.prog W .any base t v := hval0
  have hW' := hW
  obtain ⟨p, q, hA0, hV0, rfl, hfz, hnd⟩ := hW
  have hA : DataW.TrodAll enc Tryz.prog W 0 (fun _ => true) true Tryz.f6.params.toList args.toList ds p := hA0
  have hV : DataW.TrodVars enc Tryz.prog W (fun _ => true) [] gs q := hV0
  rw [Tryz.params6] at hA hval
  obtain ⟨v0, v1, d0, d1, p0, p1, rfl, rfl, rfl, h0, h1⟩ := trodAll_two hA
  obtain ⟨rfl, rfl⟩ := trodVars_none hV
  obtain ⟨n, rfl, hn⟩ := open_i64 Tryz.underlying3 (hval 0 3 v0 rfl rfl)
  obtain ⟨hcl, hfl⟩ := trod_field Tryz.underlying58 h1
  obtain ⟨cs, rfl, _⟩ := okWide_struct Tryz.underlying58 (hval 1 58 v1 rfl rfl)
  obtain ⟨_, _, hq0⟩ := hfl 0 _ rfl
  obtain ⟨_, _, hq1⟩ := hfl 1 _ rfl
  obtain ⟨_, _, hq2⟩ := hfl 2 _ rfl
  obtain ⟨_, _, hq3⟩ := hfl 3 _ rfl
  obtain ⟨fr, he0, _, _⟩ := DataW.trod_int Tryz.underlying3 hq0
  obtain ⟨to, he1, _, _⟩ := DataW.trod_int Tryz.underlying3 hq1
  obtain ⟨q, he2, _⟩ := DataW.trod_bool Tryz.underlying4 hq2
  obtain ⟨v, l, he3, hl⟩ := cells_bytes Tryz.underlying25 Tryz.underlying5 cells5 hq3
  have hcs : cs = #[.int .i64 fr, .int .i64 to, .bool q, v] := by
    simp only [cells3] at he0 he1
    simp only [cells4] at he2
    simp only [cells25] at he3
    exact quad_cells (hcl.trans cells58) he0 he1 he2 he3
  subst hcs
  refine Calls.mono (cellNeedsL n hn fr to q v l W hl) fun e W' he => ?_
  obtain ⟨v, hev, hrt, hG⟩ := he
  subst hev hrt
  exact ⟨_, rfl, post_below tryLaid cellNeeds_params rfl hW' hG.below rfl rfl rfl rfl Tryz.underlying4⟩
theorem jf1 : (Rows.cellNeedsRow.inPlace == Tryz.prog.inPlace 6) = true := by kernel_rfl
theorem jf2 : (Rows.cellNeedsRow.unfollowed == Tryz.prog.unfollowed 6) = true := by kernel_rfl
theorem jf3 : (Rows.cellNeedsRow.recurses == Tryz.prog.recurses 6) = true := by kernel_rfl
theorem jf4 : (Rows.cellNeedsRow.named == Tryz.prog.varsNamed 6) = true := by kernel_rfl
theorem jf5 : mapsRowed Tryz.prog = true := by kernel_rfl
theorem jf6 : Tryz.prog.stopsHeard = true := by kernel_rfl
theorem jf7 : Tryz.prog.mayEnter = true := by kernel_rfl
theorem jf8 : (Rows.cellNeedsRow.lifted == Tryz.prog.liftsFinal) = true := by kernel_rfl
theorem cellNeeds_closed : joinedFacts Tryz.prog 6 Tryz.f6 Rows.cellNeedsSpec Rows.cellNeedsRow = true := by
  unfold joinedFacts
  rw [tryLaid, jf1, jf2, jf3, jf4, jf5, jf6, jf7, jf8]
  kernel_rfl
theorem cellNeeds_holds : Rows.CellNeedsSaid :=
  OpenClaim.holds_of_wide 6 Tryz.f6 rfl rfl rfl rfl rfl rfl rfl ⟨rfl, rfl, rfl, rfl, rfl⟩ rfl rfl rfl rfl rfl (by kernel_rfl) Tryz.func6 cellNeeds_closed
    (of_decide_eq_true (by kernel_rfl)) (by unfold Func.isWrapper; first | (rw [if_pos (by decide +kernel)]; kernel_rfl) | (rw [if_neg (by decide +kernel)]; exact ⟨rfl, rfl⟩))
    (fun os started H enc _ => cellNeeds_lifted os started H enc)
theorem cellNeeds_card : Rows.CellNeedsCardSaid :=
  Claim7.holds_tied_plain_at .later [] [.data, .data, .data] true (true, "16eed1ad944bbbe9ad4eeed6d792fe9a2d039f30629d9090c1ebd342ca523480") true
    cellNeeds_holds (fun _ h => by cases h) (by kernel_rfl) (fun _ h => by cases h) cellNeeds_row_tie rfl ⟨rfl, rfl⟩ (by kernel_rfl) rfl
    (fun f fn hf hfn => by
      obtain rfl : f = 6 := Option.some.inj ((show Tryz.prog.funcNamed "mintage/mintagelaw21.CellNeeds" = some 6 by kernel_rfl).symm.trans hf) |>.symm
      obtain rfl : fn = Tryz.f6 := (Option.some.inj (Tryz.func6.symm.trans hfn)).symm
      exact ⟨by kernel_rfl, fun j t ht => by
        rw [Tryz.params6] at ht
        have h3 : t = 3 ∨ t = 58 := by
          rcases j with _ | _ | _ <;> simp at ht <;> first | exact .inl ht.symm | exact .inr ht.symm | exact .inr (.inl ht.symm) | exact .inr (.inr ht.symm) | exact ht.symm
        rcases h3 with rfl | rfl
        · exact (show Tryz.prog.wantsStandIn 3 = false by kernel_rfl)
        · exact (show Tryz.prog.wantsStandIn 58 = false by kernel_rfl)⟩)
    (by kernel_rfl)

end Go.Proofs.YtgjgahmhoflgcaaGreatDoor
