/- CellNulls: a field that says the null's text is a null where one may be, else refused; in quotes it is read as its bytes; a null needs no segment; over the listed tables of Go's library. -/
import Derived.Test.YtgjgahmhoflgcaaGreatDoorTl
import Derived.SevenTiedAt
import Derived.Test.YtgjgahmhoflgcaaGreatDoorTie
import Derived.Test.YtgjgahmhoflgcaaGreatDoorCards
import Derived.Stop.Joined
import Derived.LaidHandle
import Derived.LaidLaws
import Derived.RowKitTokens
import Derived.RowKit
import Derived.JoinedOf
import Derived.Test.YtgjgahmhoflgcaaGreatDoorRows
set_option linter.unusedVariables false
set_option linter.unusedSimpArgs false
set_option maxRecDepth 10000
namespace Go.Proofs.YtgjgahmhoflgcaaGreatDoor
open Go.Vc Go.RowKit Go.Proofs.YtgjgahmhoflgcaaGreatDoor.W
open Go.ChangeShapes Go.WideShapes Go.ChangeAt Go.ChangeMaps
theorem tryOwn : ownKnob Tryz.prog.godebug = none := by kernel_rfl
theorem tryLaid : laidOutB Tryz.prog = true := by kernel_rfl
def tabVals (D : DataW Unit) : Array Value := match D with
  | .agg l => (l.map fun | .lit (.int k z) => .int k z | _ => .bool false).toArray
  | _ => #[]
def layAt (w : World) (g : Nat) (D : DataW Unit) : World := { w with heap := w.heap.modify g fun
  | .cells _ t frozen => .cells (tabVals D) t frozen
  | o => o }
noncomputable def laidWorld (os : Os) : World := layAt (layAt (layAt (World.holding Tryz.prog os ⟨#[], #[], []⟩) 3 Rows.laid_internal_strconv_uint64pow10) 4 Rows.laid_math_bits_deBruijn32tab) 5 Rows.laid_math_bits_deBruijn64tab
theorem laidWorld_met (os : Os) (args : Array Value) : laidMetH Tryz.prog Rows.cellNullsRow.laid ((laidWorld os).forCall (fun _ _ => 0) ⟨#[], args, []⟩).memory := by
  show laidMet _ _ _
  exact laidMet_of_run' 8 (by kernel_rfl) (by kernel_rfl)
theorem cellNulls_params : ∀ t ∈ Tryz.f7.params.toList, Tryz.prog.readableRec t = true ∧ t < Tryz.prog.types.size := by
  have h : (Tryz.f7.params.toList.all fun t => Tryz.prog.readableRec t && decide (t < Tryz.prog.types.size)) = true := by kernel_rfl
  intro t ht
  have := List.all_eq_true.1 h t ht
  simpa using this
set_option maxRecDepth 100000 in
theorem cellNulls_lifted (os : Os) (started : os.Started) (H : Type) (enc : TypeId × Value → H) :
    ReturnsInHanded {} Tryz.checked os 7 .any (fun w args => (Rows.cellNullsSpec.pre enc Tryz.prog Tryz.f7 [] false w args ∧ laidMetH Tryz.prog Rows.cellNullsRow.laid w) ∧ sizedMet enc Tryz.prog Tryz.f7 (OpenSpec.ofChange Rows.cellNullsSpec) false w args) (Rows.cellNullsSpec.post enc Tryz.prog Tryz.f7 false true false false) := by
  refine returnsInHanded_of_change_and (C := Tryz.checked) (X := fun w _ => laidMetH Tryz.prog Rows.cellNullsRow.laid w) (fun _ _ _ hh h => h.of_heap hh) tryOwn started (by kernel_rfl) Tryz.func7
    (ChangeSpec.witness_at (enc := enc) (C := Tryz.checked) (os := os) (X := fun w _ => laidMetH Tryz.prog Rows.cellNullsRow.laid w) false (laidWorld os) #[.int .i64 0, .string ⟨#[]⟩] 8 rfl (by kernel_rfl) (by kernel_rfl) (by kernel_rfl) (by kernel_rfl) (by kernel_rfl) (laidWorld_met os _)) ?_
  intro W base args ds gs before hval0 hW _ _ hL _
  have hval : ∀ (j : Nat) t v, Tryz.f7.params[j]? = some t → args[j]? = some v → Value.okWide Tryz.prog W .any base t v := hval0
  have hW' := hW
  obtain ⟨p, q, hA0, hV0, rfl, hfz, hnd⟩ := hW
  have hA : DataW.TrodAll enc Tryz.prog W 0 (fun _ => true) true Tryz.f7.params.toList args.toList ds p := hA0
  have hV : DataW.TrodVars enc Tryz.prog W (fun _ => true) [] gs q := hV0
  rw [Tryz.params7] at hA hval
  obtain ⟨v0, v1, d0, d1, p0, p1, rfl, rfl, rfl, h0, h1⟩ := trodAll_two hA
  obtain ⟨rfl, rfl⟩ := trodVars_none hV
  obtain ⟨n, rfl, hn⟩ := open_i64 Tryz.underlying3 (hval 0 3 v0 rfl rfl)
  obtain ⟨nl, rfl⟩ := open_str Tryz.underlying9 (hval 1 9 v1 rfl rfl)
  refine Calls.mono (cellNullsL n hn nl W) fun e W' he => ?_
  obtain ⟨v, hev, hrt, hG⟩ := he
  subst hev hrt
  exact ⟨_, rfl, post_below tryLaid cellNulls_params rfl hW' hG.below rfl rfl rfl rfl Tryz.underlying4⟩
theorem jf1 : (Rows.cellNullsRow.inPlace == Tryz.prog.inPlace 7) = true := by kernel_rfl
theorem jf2 : (Rows.cellNullsRow.unfollowed == Tryz.prog.unfollowed 7) = true := by kernel_rfl
theorem jf3 : (Rows.cellNullsRow.recurses == Tryz.prog.recurses 7) = true := by kernel_rfl
theorem jf4 : (Rows.cellNullsRow.named == Tryz.prog.varsNamed 7) = true := by kernel_rfl
theorem jf5 : mapsRowed Tryz.prog = true := by kernel_rfl
theorem jf6 : Tryz.prog.stopsHeard = true := by kernel_rfl
theorem jf7 : Tryz.prog.mayEnter = true := by kernel_rfl
theorem jf8 : (Rows.cellNullsRow.lifted == Tryz.prog.liftsFinal) = true := by kernel_rfl
theorem cellNulls_closed : joinedFacts Tryz.prog 7 Tryz.f7 Rows.cellNullsSpec Rows.cellNullsRow = true := by
  unfold joinedFacts
  rw [tryLaid, jf1, jf2, jf3, jf4, jf5, jf6, jf7, jf8]
  kernel_rfl
theorem cellNulls_holds : Rows.CellNullsSaid :=
  OpenClaim.holds_of_wide 7 Tryz.f7 rfl rfl rfl rfl rfl rfl rfl ⟨rfl, rfl, rfl, rfl, rfl⟩ rfl rfl rfl rfl rfl (by kernel_rfl) Tryz.func7 cellNulls_closed
    (of_decide_eq_true (by kernel_rfl)) (by unfold Func.isWrapper; first | (rw [if_pos (by decide +kernel)]; kernel_rfl) | (rw [if_neg (by decide +kernel)]; exact ⟨rfl, rfl⟩))
    (fun os started H enc _ => cellNulls_lifted os started H enc)
theorem cellNulls_card : Rows.CellNullsCardSaid :=
  Claim7.holds_tied_plain_at .later [] [.data, .data, .data] true (true, "16eed1ad944bbbe9ad4eeed6d792fe9a2d039f30629d9090c1ebd342ca523480") true
    cellNulls_holds (fun _ h => by cases h) (by kernel_rfl) (fun _ h => by cases h) cellNulls_row_tie rfl ⟨rfl, rfl⟩ (by kernel_rfl) rfl
    (fun f fn hf hfn => by
      obtain rfl : f = 7 := Option.some.inj ((show Tryz.prog.funcNamed "mintage/mintagelaw21.CellNulls" = some 7 by kernel_rfl).symm.trans hf) |>.symm
      obtain rfl : fn = Tryz.f7 := (Option.some.inj (Tryz.func7.symm.trans hfn)).symm
      exact ⟨by kernel_rfl, fun j t ht => by
        rw [Tryz.params7] at ht
        have h3 : t = 3 ∨ t = 9 := by
          rcases j with _ | _ | _ <;> simp at ht <;> first | exact .inl ht.symm | exact .inr ht.symm | exact .inr (.inl ht.symm) | exact .inr (.inr ht.symm) | exact ht.symm
        rcases h3 with rfl | rfl
        · exact (show Tryz.prog.wantsStandIn 3 = false by kernel_rfl)
        · exact (show Tryz.prog.wantsStandIn 9 = false by kernel_rfl)⟩)
    (by kernel_rfl)

end Go.Proofs.YtgjgahmhoflgcaaGreatDoor
