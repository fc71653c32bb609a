/- the document's gate: Do, Play, Rest -/
import Derived.Test.YtgfkagaacdblbaaGreatZf
set_option linter.unusedVariables false
set_option linter.unusedSimpArgs false
set_option maxRecDepth 10000
namespace Go.Proofs.YtgfkagaacdblbaaGreat.W
open Go.Vc Go.RowKit Tryz
theorem doR_play {G : GW} {p : Int} (hm : Z0A G ≠ []) : (doRes G (Z1Q p (Z0A G).length)).2 = Z3n G p := by
 have hpos : 0 < (Z0A G).length := List.length_pos_iff.2 hm
 have hb := Z3m (p := p) (show (0 : Int) < ((Z0A G).length : Int) by omega)
 unfold doRes Z3n
 rw [if_pos ZO]
theorem frZ {Z : GDm} (h : LaOk Z) (j : Nat) : (Z.la + ((j : Int) + 1)).tmod (Z.hs.length : Int) = (((Z.abs.fr + j) % Z.hs.length : Nat) : Int) := by
 have h1 := h.1
 have e : Z.la + ((j : Int) + 1) = (((Z.la + 1).toNat + j : Nat) : Int) := by omega
 rw [e]
 show _ = ((((Z.la + 1).toNat % Z.hs.length + j) % Z.hs.length : Nat) : Int)
 rw [Nat.mod_add_mod]
 exact (Int.ofNat_tmod _ _).symm
theorem DoR (rb : Nat) (Z : GDm) (hwf : Wf Z.abs) (hla : LaOk Z) (k : Int) (w : World) (hS : Sep w.heap.size (fps (zW rb Z)) w (zW rb Z)) :
  Z0f P 11 [ptr rb, .int .i64 k] w fun r w' => ∃ Y : GDm, r = .int .i64 (doRes Z.abs k).1 ∧ Y.abs = (doRes Z.abs k).2 ∧ LaOk Y ∧ Z1C w w' (zW rb Z) (zW rb Y) := by
 refine Z0o func11 rfl ntmps11 rfl ?_
 have H0 : St w w.heap.size (fps (zW rb Z)) (zW rb Z) w := St.startS hS
 refine Z03 (Z00 (Zg (Z01 (Z02 ?_))))
 refine Zk [0, 1] ?_
 refine Z03 (Z00 (Zm ?_))
 refine Zc func24 (MovesR rb Z hwf w (GDF.of (σ := _) (rb := rb) (Z := Z) H0)) ?_
 rintro mv w1 ⟨_, rfl, hG⟩
 have H1 := hG _ _ _ _ H0
 simp only [Zca, Zna] at H1
 refine Zg (Z01 (Z02 ?_))
 refine Zk [0, 1, 5] ?_
 refine Z03 (Z03 (Z00 (Zm ?_)))
 refine Zl ?_
 refine Zm ?_
 apply l_or 4 [0, 1, 5] rfl rfl (.cons rfl (.cons rfl (.cons rfl (.cons rfl .nil)))) rfl rfl (fun _ => rfl) rfl rfl rfl
 ·intro hg2_3
  refine Zm (Zm ?_)
  refine Z1B rfl rfl underlying50 rfl (Own.ik (Z0U _) (H1.ok mem0)) ?_
  refine Z0j (s := 13) (v' := .int .i64 ((Z0A Z.abs).length : Int)) rfl (by rw [Z1m]) ?_
  refine Zh ?_
  refine Z01 ?_
  exact Z0O rfl (.cons rfl (ZF hg2_3) (.cons rfl rfl (.cons rfl rfl (.cons rfl rfl .nil))))
  all_goals infer_instance
 refine Z01 (Z02 ?_)
 refine Zk [0, 1, 5, 15] ?_
 (first | refine Z0c rfl ?_ ?_ | refine Z08 rfl ?_ ?_) <;> intro hc0
 ·refine Z03 (Z00 (Zg (Z01 (Z02 ?_))))
  refine Zk [4] ?_
  refine Z0i ?_
  refine Z07 ?_
  refine Z0e results11 rfl ?_
  refine ⟨_, rfl, ?_⟩
  have H5 := St.del (.tail (.tail (.tail .head))) (St.front3 (St.front3 (St.front3 H1)))
  have e : doRes Z.abs k = (281, Z.abs) := if_neg ZO
  rw [e]
  exact ⟨Z, rfl, rfl, hla, H5.transS⟩
 refine Z0a (Z02 ?_)
 refine Zk [0, 1, 5] ?_
 refine Z03 (Z00 ?_)
 have hkl : 0 ≤ k ∧ k < (Z0A Z.abs).length := by omega
 obtain ⟨i0, hi0⟩ : ∃ i, (Z0A Z.abs)[k.toNat]? = some i := ⟨_, List.getElem?_eq_getElem ZO⟩
 obtain ⟨hi0l, hm0⟩ := Z2O (List.mem_of_getElem? hi0)
 have hmr : (Z18 (Z0A Z.abs))[k.toNat]? = some [.int .i64 (i0 : Int), .int .i64 0] := by unfold Z18; rw [List.getElem?_map, hi0]; rfl
 refine Zm (Zm (Zm ?_))
 refine Z3J (j := k.toNat) rfl rfl underlying50 tz87 (by decide) rfl rfl (Own.ik (Z0U _) (H1.ok mem0)) ZO (by rw [Z1m]; omega) (fun A4 c4 hA4 => ?_)
 refine Z0D fo87_0 rfl rfl rfl ?_
 refine Z0R (j := k.toNat) (o := 0) (r := [.int .i64 (i0 : Int), .int .i64 0]) rfl rfl underlying3 rfl rfl hA4 (Own.ik (Z0U _) (H1.ok mem0)) hmr rfl ?_
 have H6 := St.frontL (l := [_, _, _]) H1
 simp only [Zca, Zna] at H6
 have H7 := St.frontL (l := [_, _, _]) H6
 simp only [Zca, Zna] at H7
 have H8 := St.frontL (l := [_, _, _]) H7
 simp only [Zca, Zna] at H8
 refine Zc func33 (stepR rb i0 Z hwf hm0 w1 (St.rows (τ := zW rb Z) H8)) ?_
 rintro _ w9 ⟨Y, rfl, hY, hlY, hX2⟩
 have H9 := hX2 _ _ _ _ H8
 simp only [zW, List.cons_append, List.nil_append] at H9
 refine Z01 (Z02 ?_)
 refine Zk [] ?_
 refine Z03 (Z00 (Zg (Z01 (Z02 ?_))))
 refine Z0i ?_
 refine Z0e results11 rfl ?_
 refine ⟨_, rfl, ?_⟩
 have H13 := St.del (.tail (.tail (.tail .head))) (St.front2 (St.front2 (St.front2 H9)))
 have e : doRes Z.abs k = (0, Z1S Z.abs i0) := by
  unfold doRes
  rw [if_pos ZO]
  unfold Z1E
  rw [hi0]
 rw [e]
 exact ⟨Y, rfl, hY, hlY, H13.transS⟩
theorem PlayR (rb : Nat) (Z : GDm) (hwf : Wf Z.abs) (hla : LaOk Z) (v : Value) (l : List Int) (hl : Rg (-9223372036854775808) 9223372036854775807 l) (hll : l.length ≤ 1099511627776) (w : World) (hS : Sep w.heap.size (fps (zW rb Z)) w (zW rb Z)) (hv : ∀ w1 : World, (∀ k, k < w.heap.size → ¬ fps (zW rb Z) k → w1.heap[k]? = w.heap[k]?) → IV w1 v (ints .i64 l)) :
  Z0f P 13 [ptr rb, v] w fun r w' => ∃ (k : Nat) (Y : GDm), r = .int .i64 (k : Int) ∧ Z2r Z.abs l k Y.abs ∧ (k = l.length ∨ (k < l.length ∧ Z0A Y.abs = [])) ∧ LaOk Y ∧ Z1C w w' (zW rb Z) (zW rb Y) := by
 refine Z0o func13 rfl ntmps13 rfl ?_
 have H0 : St w w.heap.size (fps (zW rb Z)) (zW rb Z) w := St.startS hS
 refine Z03 (Z00 (Zg (Z01 (Z02 ?_))))
 refine Zk [0, 1] ?_
 refine Z03 (Z03 (Z00 (Zg (Z01 (Z02 (Z0d ?_))))))
 refine Z0z (ι := Nat × GDm) (fun (z0 : Nat × GDm) => match z0 with | ⟨i, Y⟩ => l.length - i) (fun (z0 : Nat × GDm) (w' : World) => match z0 with | ⟨i, Y⟩ => St w w.heap.size (fps (zW rb Z)) (zW rb Y) w' ∧ i ≤ l.length ∧ Z2r Z.abs l i Y.abs ∧ LaOk Y) (fun (z0 : Nat × GDm) => match z0 with | ⟨i, Y⟩ => [(5, .int .i64 (i : Int))]) [0, 1] (0, Z) ?_ (.cons rfl (.cons rfl .nil)) ?_ ?_
 ·exact ⟨H0, ZO, .zero, hla⟩
 ·exact (.cons rfl ZN .nil)
 rintro ⟨i, Y⟩ w1 ⟨H1, hi, hN, hlY⟩
 show RunC P _ _ _ (_ :: _) _
 refine Z03 (Z03 (Z00 (Zm (Zm ?_))))
 refine Z0u rfl rfl underlying34 rfl (by first | exact H1.ibl mem0 | exact H1.ik ZA mem1 | exact H1.ikM hv | assumption) ?_
 refine Zl ?_
 refine Z01 (Z02 ?_)
 refine Zk [0, 1, 5, 10] ?_
 (first | refine Z0c rfl ?_ ?_ | refine Z08 rfl ?_ ?_) <;> intro hc0
 ·refine Z0a (Z02 ?_)
  refine Zk [0, 1, 5] ?_
  refine Z03 (Z0d (Z03 (Z00 ?_)))
  have hi1 : i < l.length := by omega
  have hwfY := hN.wf hwf
  have hmgl : (Z0A Y.abs).length ≤ 16 := Nat.le_trans (Z2W _ _) hwfY.n16
  refine Zm ?_
  refine Zc func24 (MovesR rb Y hwfY w1 (GDF.of (σ := _) (rb := rb) (Z := Y) H1)) ?_
  rintro mv w2 ⟨_, rfl, hG⟩
  have H2 := hG _ _ _ _ H1
  simp only [Zca, Zna] at H2
  refine Z1B rfl rfl underlying50 rfl (Own.ik (Z0U _) (H2.ok mem0)) ?_
  refine Z0j (s := 15) (v' := .int .i64 ((Z0A Y.abs).length : Int)) rfl (by rw [Z1m]) ?_
  refine Zg (Z01 (Z02 ?_))
  refine Zk [0, 1, 5, 6] ?_
  refine Z03 (Z03 (Z00 (Zm ?_)))
  refine Ze ?_
  refine Z01 (Z02 ?_)
  refine Zk [0, 1, 5, 6, 17] ?_
  (first | refine Z0c rfl ?_ ?_ | refine Z08 rfl ?_ ?_) <;> intro hc1
  ·refine Z03 (Z00 (Zm (Zg (Z01 (Z02 ?_)))))
   refine Zk [4] ?_
   refine Z0i ?_
   refine Z07 ?_
   refine Z0k ?_
   refine Z07 ?_
   refine Z07 ?_
   refine Z0k ?_
   refine Z07 ?_
   refine Z0e results13 rfl ?_
   refine ⟨_, rfl, ?_⟩
   have H6 := St.del (.tail (.tail (.tail .head))) (St.front3 (St.front3 (St.front3 H2)))
   refine ⟨i, Y, rfl, hN, .inr ⟨hi1, ?_⟩, hlY, H6.transS⟩
   exact List.eq_nil_of_length_eq_zero ZO
  refine Z0a (Z02 ?_)
  refine Zk [0, 1, 5, 6] ?_
  refine Z00 ?_
  have hne : Z0A Y.abs ≠ [] := fun h => by rw [h] at hc1; simp at hc1
  have hpos : 0 < (Z0A Y.abs).length := List.length_pos_iff.2 hne
  have hlq := hl.get hi1
  refine Zm (Zm (Zm ?_))
  refine Z0T (j := i) rfl rfl rfl rfl underlying34 tz3 underlying3 rfl rfl (by first | exact H2.ik ZA mem0 | exact H2.ibl mem1 | exact H2.ik ZA mem2 | exact H2.ikM hv | assumption) ZA rfl ZO ZI (fun hb7_3 => ?_)
  refine Zm ?_
  refine Zp func35 (whichR (l.getD i 0) ((Z0A Y.abs).length : Int) ZO ZO _) ?_
  have H7 := St.frontL (l := [_, _, _]) H2
  simp only [Zca, Zna] at H7
  have H8 := St.frontL (l := [_, _, _]) H7
  simp only [Zca, Zna] at H8
  have H9 := St.frontL (l := [_, _, _]) H8
  simp only [Zca, Zna] at H9
  refine Zc func11 (DoR rb Y hwfY hlY (Z1Q (l.getD i 0) ((Z0A Y.abs).length : Int)) w2 (St.rows (τ := zW rb Y) H9)) ?_
  rintro _ w10 ⟨Y2, rfl, hY2, hlY2, hX2⟩
  have H10 := hX2 _ _ _ _ H9
  simp only [zW, List.cons_append, List.nil_append] at H10
  refine Z01 ?_
  refine Z0F ?_
  refine Z02 ?_
  refine Zk [0, 1, 5] ?_
  refine Z00 (Zm ?_)
  refine Z0y rfl rfl rfl rfl (Z0l ZO) ?_
  refine Zg (Z01 ?_)
  rw [doR_play hne] at hY2
  have H11 := St.del (.tail (.tail (.tail .head))) H10
  refine Z0p (i := (i, Y)) (i + 1, Y2) ?_ ?_ (.cons rfl (.cons rfl .nil)) ?_
  ·first | omega | (simp; omega)
  ·exact ⟨H11, ZO, by rw [hY2]; exact .succ hN hne (by simp [List.getD, hi1]), hlY2⟩
  exact (.cons rfl ZN .nil)
 refine Z0H ?_
 refine Z06 ?_
 refine Z06 ?_
 refine Z0h ?_
 refine Z02 ?_
 refine Zk [1] ?_
 refine Z03 (Z00 (Zm ?_))
 refine Z0u rfl rfl underlying34 rfl (by first | exact H1.ibl mem0 | exact H1.ik ZA mem1 | exact H1.ikM hv | assumption) ?_
 refine Zg (Z01 (Z02 ?_))
 refine Zk [4] ?_
 refine Z0i ?_
 refine Z0e results13 rfl ?_
 refine ⟨_, rfl, ?_⟩
 have H14 := St.front2 (St.front2 (St.front2 H1))
 obtain rfl : i = l.length := by omega
 exact ⟨_, Y, rfl, hN, .inl rfl, hlY, H14.transS⟩
theorem RestR (rb : Nat) (Z : GDm) (hwf : Wf Z.abs) (hla : LaOk Z) (w : World) (hS : Sep w.heap.size (fps (zW rb Z)) w (zW rb Z)) :
  Z0f P 15 [ptr rb] w fun r w' => ∃ (k : Nat) (Y : GDm), r = .int .i64 (k : Int) ∧ Z1Y Z.abs k Y.abs ∧ Z1L Y.abs = none ∧ LaOk Y ∧ Z1C w w' (zW rb Z) (zW rb Y) := by
 refine Z0o func15 rfl ntmps15 rfl ?_
 have H0 : St w w.heap.size (fps (zW rb Z)) (zW rb Z) w := St.startS hS
 refine Z03 (Z00 (Zg (Z01 (Z02 ?_))))
 refine Zk [0] ?_
 refine Z03 (Z00 (Zg (Z01 (Z02 (Z0d ?_)))))
 refine Z0z (ι := Nat × GDm) (fun (z0 : Nat × GDm) => match z0 with | ⟨k, Y⟩ => phiG Y.abs) (fun (z0 : Nat × GDm) (w' : World) => match z0 with | ⟨k, Y⟩ => St w w.heap.size (fps (zW rb Z)) (zW rb Y) w' ∧ Z1Y Z.abs k Y.abs ∧ LaOk Y) (fun (z0 : Nat × GDm) => match z0 with | ⟨k, Y⟩ => [(3, .int .i64 (k : Int))]) [0] (0, Z) ?_ (.cons rfl .nil) ?_ ?_
 ·exact ⟨H0, .zero, hla⟩
 ·exact (.cons rfl ZN .nil)
 rintro ⟨k, Y⟩ w1 ⟨H1, hN, hlY⟩
 show RunC P _ _ _ (_ :: _) _
 refine Z0d (Z03 (Z00 ?_))
 have hwfY := hN.wf hwf
 have hph := hN.phi hwf
 have hpl := phi_le hwf
 have hYn : Y.hs.length ≤ 16 := by simpa [GDm.abs] using hwfY.n16
 refine Zg (Z01 (Z02 (Z03 (Z03 (Z00 (Zg (Z01 (Z02 (Z0d ?_)))))))))
 refine Z0z (ι := Nat × Int) (fun (z0 : Nat × Int) => match z0 with | ⟨j, f⟩ => Y.hs.length - j) (fun (z0 : Nat × Int) (w' : World) => match z0 with | ⟨j, f⟩ => St w w.heap.size (fps (zW rb Z)) (zW rb Y) w' ∧ j ≤ Y.hs.length ∧ ((f = -1 ∧ ∀ t, t < j → mayG Y.abs ((Y.abs.fr + t) % Y.hs.length) = false) ∨ ∃ i : Nat, Z1L Y.abs = some i ∧ f = (i : Int))) (fun (z0 : Nat × Int) => match z0 with | ⟨j, f⟩ => [(4, .int .i64 f), (5, .int .i64 ((j : Int) + 1))]) [0, 3] (0, -1) ?_ (.cons rfl (.cons rfl .nil)) ?_ ?_
 ·exact ⟨H1, ZO, .inl ⟨rfl, fun t h => by omega⟩⟩
 ·exact (.cons rfl ZN (.cons rfl ZN .nil))
 rintro ⟨j, f⟩ w2 ⟨H2, hj, hor⟩
 show RunC P _ _ _ (_ :: _) _
 refine Z03 (Z03 (Z00 (Zm (Zm (Z0b rfl rfl rfl (Z09 Z24 rfl rfl rfl ?_))))))
 refine Z05 (Z0r (H2.ok mem0)) mem0 rfl rfl underlying75 rfl rfl rfl ?_
 refine Z1B rfl rfl underlying75 rfl ((GDF.of (σ := _) (rb := rb) (Z := Y) H2).hh) ?_
 refine Z0j (s := 12) (v' := .int .i64 (Y.hs.length : Int)) rfl (by rw [List.length_map]) ?_
 refine Zf ?_
 refine Zm ?_
 apply Z47 2 [0, 3, 4, 5] rfl rfl (.cons rfl (.cons rfl (.cons rfl (.cons rfl (.cons rfl .nil))))) rfl rfl (fun _ => rfl) rfl rfl rfl
 ·intro hg4_8
  refine Zm ?_
  refine Zl ?_
  refine Z01 ?_
  exact Z0O rfl (.cons rfl (ZT hg4_8) (.cons rfl rfl (.cons rfl rfl (.cons rfl rfl (.cons rfl rfl .nil)))))
  all_goals infer_instance
 refine Z01 (Z02 ?_)
 refine Zk [0, 3, 4, 5, 17] ?_
 (first | refine Z0c rfl ?_ ?_ | refine Z08 rfl ?_ ?_) <;> intro hc0
 ·refine Z0a (Z02 ?_)
  refine Zk [0, 3, 4, 5] ?_
  refine Z03 (Z0d (Z03 ?_))
  have H3 := H2.drewn
  have hla1 := hlY.1
  have hla2 := hlY.2
  have hjn : j < Y.hs.length := by omega
  have hf1 : f = -1 ∧ ∀ t, t < j → mayG Y.abs ((Y.abs.fr + t) % Y.hs.length) = false := by
   rcases hor with h | ⟨i, _, h⟩
   ·exact h
   omega
  have hlt : (Y.abs.fr + j) % Y.hs.length < Y.hs.length := Nat.mod_lt _ ZO
  refine Z1a (n := 13) [Zz,Zz,Zz,Zz,Zz,Zz,Zz,Zz,Zz,Zz,Zz,Zz,Zz] (fun wS => (As.blk rb 80 (zC Y)).ok wS ∧ True) ZK rfl rfl ?_
  apply Zu (L' := [Zy,Zz,Zz,Zz,Zz,Zz,Zz,Zz,Zz,Zz,Zz,Zz,Zz]) 0 (⟨H3.ok mem0, trivial⟩)
  ·intro wS sS
   refine Zm (Z01 ?_)
   exact Z04 rfl
  refine Z0N (L' := [Zy,Zy,Zz,Zz,Zz,Zz,Zz,Zz,Zz,Zz,Zz,Zz,Zz]) 1 rfl ZK ZK ZK rfl rfl rfl (⟨H3.ok mem0, trivial⟩) rfl ?_
  apply Zu (L' := [Zy,Zy,Zy,Zz,Zz,Zz,Zz,Zz,Zz,Zz,Zz,Zz,Zz]) 2 (⟨H3.ok mem0, trivial⟩)
  ·intro wS sS
   refine Z09 fo80_2 rfl rfl rfl (Z01 ?_)
   exact Z04 rfl
  apply Zu (L' := [Zy,Zy,Zy,Zy,Zz,Zz,Zz,Zz,Zz,Zz,Zz,Zz,Zz]) 3 (⟨H3.ok mem0, trivial⟩)
  ·intro wS sS
   refine Z05 (Z0r (sS.1)) mem0 rfl rfl underlying3 rfl rfl (zc_la (WfZ.n41 hwfY)) ?_
   refine Z01 ?_
   exact Z04 rfl
  apply Zu (L' := [Zy,Zy,Zy,Zy,Zy,Zz,Zz,Zz,Zz,Zz,Zz,Zz,Zz]) 4 (⟨H3.ok mem0, trivial⟩)
  ·intro wS sS
   refine Zm (Z01 ?_)
   exact Z04 rfl
  apply Zu (L' := [Zy,Zy,Zy,Zy,Zy,Zy,Zz,Zz,Zz,Zz,Zz,Zz,Zz]) 5 (⟨H3.ok mem0, trivial⟩)
  ·intro wS sS
   refine Z0y rfl rfl rfl rfl (Z0l ZO) ?_
   refine Z01 ?_
   exact Z04 rfl
  apply Zu (L' := [Zy,Zy,Zy,Zy,Zy,Zy,Zy,Zz,Zz,Zz,Zz,Zz,Zz]) 6 (⟨H3.ok mem0, trivial⟩)
  ·intro wS sS
   refine Zm (Z01 ?_)
   exact Z04 rfl
  refine Z0N (L' := [Zy,Zy,Zy,Zy,Zy,Zy,Zy,Zy,Zz,Zz,Zz,Zz,Zz]) 7 rfl ZK ZK ZK rfl rfl rfl (⟨H3.ok mem0, trivial⟩) rfl ?_
  apply Zu (L' := [Zy,Zy,Zy,Zy,Zy,Zy,Zy,Zy,Zy,Zz,Zz,Zz,Zz]) 8 (⟨H3.ok mem0, trivial⟩)
  ·intro wS sS
   refine Z09 Z24 rfl rfl rfl (Z01 ?_)
   exact Z04 rfl
  apply Zu (L' := [Zy,Zy,Zy,Zy,Zy,Zy,Zy,Zy,Zy,Zy,Zz,Zz,Zz]) 9 (⟨H3.ok mem0, trivial⟩)
  ·intro wS sS
   refine Z05 (Z0r (sS.1)) mem0 rfl rfl underlying75 rfl rfl rfl ?_
   refine Z01 ?_
   exact Z04 rfl
  refine Z0v (L' := [Zy,Zy,Zy,Zy,Zy,Zy,Zy,Zy,Zy,Zy,Zy,Zz,Zz]) 10 ZK rfl rfl ?_
  refine Z1B rfl rfl underlying75 rfl ((GDF.of (σ := _) (rb := rb) (Z := Y) H3).hh) ?_
  refine Z0j (s := 30) (v' := .int .i64 (Y.hs.length : Int)) rfl (by rw [List.length_map]) ?_
  refine Z01 ?_
  refine Z0n (⟨H3.ok mem0, trivial⟩) ?_
  apply Zu (L' := [Zy,Zy,Zy,Zy,Zy,Zy,Zy,Zy,Zy,Zy,Zy,Zy,Zz]) 11 (⟨H3.ok mem0, trivial⟩)
  ·intro wS sS
   refine Z2e rfl rfl rfl rfl ZO (frZ hlY j) ?_
   refine Z01 ?_
   exact Z04 rfl
  apply Zu (L' := [Zy,Zy,Zy,Zy,Zy,Zy,Zy,Zy,Zy,Zy,Zy,Zy,Zy]) 12 (⟨H3.ok mem0, trivial⟩)
  ·intro wS sS
   refine Zg (Z01 ?_)
   exact Z04 rfl
  refine Z0B ZK ?_
  refine Z02 ?_
  refine Zk [0, 3, 4, 5, 6] ?_
  refine Z03 (Z00 (Zm (Zm ?_)))
  refine Zc func37 (canR rb Y hwfY ((Y.abs.fr + j) % Y.hs.length) hlt w2.drew (GDF.of (σ := _) (rb := rb) (Z := Y) H3)) ?_
  rintro _ w4 ⟨rfl, hG⟩
  have H4 := hG _ _ _ _ H3
  simp only [Zca, Zna] at H4
  refine Z01 (Z02 ?_)
  refine Zk [0, 3, 4, 5, 6, 34] ?_
  (first | refine Z0c rfl ?_ ?_ | refine Z08 rfl ?_ ?_) <;> intro hc1
  ·refine Z00 (Zm (Zg (Z01 ?_)))
   refine Z0F ?_
   refine Z02 ?_
   refine Zk [0, 3, 4, 5] ?_
   refine Z00 (Zm ?_)
   refine Z0y rfl rfl rfl rfl (Z0l ZO) ?_
   refine Zg (Z01 ?_)
   refine Z0p (i := (j, f)) (j + 1, (((Y.abs.fr + j) % Y.hs.length : Nat) : Int)) ?_ ?_ (.cons rfl (.cons rfl .nil)) ?_
   ·first | omega | (simp; omega)
   ·exact ⟨H4, ZO, .inr ⟨_, by
     have e := next_some (G := Y.abs) (i := j) (by rw [Z2i]; exact hjn) (by rw [Z2i]; assumption) (by rw [Z2i]; exact hf1.2)
     rw [Z2i] at e
     exact e, rfl⟩⟩
   exact (.cons rfl ZN (.cons rfl ZN .nil))
  refine Z0a ?_
  refine Z0F ?_
  refine Z02 ?_
  refine Zk [0, 3, 4, 5] ?_
  refine Z00 (Zm ?_)
  refine Z0y rfl rfl rfl rfl (Z0l ZO) ?_
  refine Zg (Z01 ?_)
  refine Z0p (i := (j, f)) (j + 1, f) ?_ ?_ (.cons rfl (.cons rfl .nil)) ?_
  ·first | omega | (simp; omega)
  ·exact ⟨H4, ZO, .inl ⟨hf1.1, fun t ht => by
    by_cases e : t = j
    ·subst e; assumption
    exact hf1.2 t ZO⟩⟩
  exact (.cons rfl ZN (.cons rfl ZN .nil))
 refine Z0H ?_
 refine Z06 ?_
 refine Z06 ?_
 refine Z0h ?_
 refine Z02 ?_
 refine Zk [0, 3, 4] ?_
 refine Z03 (Z03 (Z00 (Zm ?_)))
 refine Zl ?_
 refine Z01 (Z02 ?_)
 refine Zk [0, 3, 4, 37] ?_
 (first | refine Z0c rfl ?_ ?_ | refine Z08 rfl ?_ ?_) <;> intro hc2
 ·refine Z03 (Z00 (Zm (Zg (Z01 (Z02 ?_)))))
  refine Zk [2] ?_
  refine Z0i ?_
  refine Z07 ?_
  refine Z0k ?_
  refine Z07 ?_
  refine Z0k ?_
  refine Z0e results15 rfl ?_
  refine ⟨_, rfl, ?_⟩
  have H7 := St.front2 (St.front2 (St.front2 H2))
  refine ⟨k, Y, rfl, hN, ?_, hlY, H7.transS⟩
  have hf1 : f = -1 ∧ ∀ t, t < j → mayG Y.abs ((Y.abs.fr + t) % Y.hs.length) = false := by
   rcases hor with h | ⟨i, _, h⟩
   ·exact h
   omega
  refine next_none fun t ht => ?_
  rw [Z2i] at ht ⊢
  exact hf1.2 t ZO
 refine Z0a (Z02 ?_)
 refine Zk [0, 3, 4] ?_
 refine Z03 (Z00 ?_)
 obtain ⟨i0, hi0, hfi⟩ : ∃ i : Nat, Z1L Y.abs = some i ∧ f = (i : Int) := by
  rcases hor with h | h
  ·omega
  exact h
 subst hfi
 obtain ⟨hmay2, hi2⟩ := Z3T hi0
 refine Zm (Zm ?_)
 refine Zc func33 (stepR rb i0 Y hwfY hmay2 w2 (St.rows (τ := zW rb Y) H2)) ?_
 rintro _ w8 ⟨Y2, rfl, hY2, hlY2, hX2⟩
 have H8 := hX2 _ _ _ _ H2
 simp only [zW, List.cons_append, List.nil_append] at H8
 have hph2 : phiG Y2.abs < phiG Y.abs := by rw [hY2]; exact Z3S hwfY hmay2
 refine Z01 (Z02 ?_)
 refine Zk [0, 3] ?_
 refine Z00 (Zm ?_)
 refine Z0y rfl rfl rfl rfl (Z0l ZO) ?_
 refine Zg (Z01 ?_)
 refine Z0F ?_
 refine Z0p (i := (k, Y)) (k + 1, Y2) ?_ ?_ (.cons rfl .nil) ?_
 ·first | omega | (simp; omega)
 ·exact ⟨H8, by rw [hY2]; exact .succ hN hi0, hlY2⟩
 exact (.cons rfl ZN .nil)
end Go.Proofs.YtgfkagaacdblbaaGreat.W
