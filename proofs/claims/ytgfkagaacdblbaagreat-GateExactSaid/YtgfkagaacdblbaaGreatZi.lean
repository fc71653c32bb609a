/- the law GateExact: moves, looks -/
import Derived.Test.YtgfkagaacdblbaaGreatZh
set_option linter.unusedVariables false
set_option linter.unusedSimpArgs false
set_option maxRecDepth 10000
namespace Go.Proofs.YtgfkagaacdblbaaGreat.W
open Go.Vc Go.RowKit Tryz
section
variable {P : Program} {N : Nat} {Q : Post} {ρ : Env} {w : World} {S : World → Prop} {L L' : List Bool} {fuel : Nat}
theorem Z10 {l : List Oper} (i : Nat) {oi : Oper} {d : Nat} {ri : List Oper} (hi : l.drop i = oi :: ri) (hs : Region.noSelect l.toArray = true) (hf : Region.free .any l.toArray L.toArray i = true) (hr : (Region.ready .any l.toArray L.toArray).contains i = true)
  (hd : oi.dst = some d) (hN : Nat.blt d N = true) (hg : spurnE l.toArray ρ oi.guard = true) (hL : L.set i true = L') (hS : S w) (n : RunA P N l.toArray Q S fuel L' ((d, undef) :: ρ) w) : RunA P N l.toArray Q S (fuel + 1) L ρ w := fun a ha => by
 have hw := spurned_of ha (o := oi) hg
 have hy : YieldsIf P l.toArray S oi undef a := .inr ⟨hw, rfl⟩
 have h := n _ (ha.put d hN undef)
 subst hL
 refine wpAnyH_take (Z4l hi) hs hf hr (fun c a w q => by cases q.1) hy hS ?_
 rw [hd]
 simpa using h
end
theorem readF_ex {G : GW} (hw : Wf G) (i : Int) : ∃ l : List Int, Z2J G i = Z0Y l ∧ l.length ≤ 64 := by
 unfold Z2J
 by_cases h0 : 0 ≤ i
 ·rw [if_pos h0]
  cases hh : G.hs[i.toNat]? with
  | none => exact ⟨[], rfl, by simp⟩
  | some h =>
   have := (hw.hd _ _ hh).al
   exact ⟨h.asks.take h.nx, rfl, by simp; omega⟩
 rw [if_neg h0]
 exact ⟨[], rfl, by simp⟩
theorem movesL (va vb : Value) (l : List Nat) (hll : l.length ≤ 100000) (w : World) (ha : IK w 2 va (Z18 l)) (hb : IK w 2 vb (Z18 l)) :
  Z0f P 22 [va, vb] w fun r w' => r = .bool true ∧ Grow w w' [] := by
 refine Z0o func22 rfl ntmps22 rfl ?_
 have H0 := St.start w
 have hrl0 : (Z18 l).length = l.length := Z1m l
 refine Z03 (Z00 (Zg (Z01 (Z02 ?_))))
 refine Zk [0, 1] ?_
 refine Z03 (Z03 (Z00 (Zm ?_)))
 refine Z1B rfl rfl underlying50 rfl (H0.ikarg ha) ?_
 refine Zm ?_
 refine Z1B rfl rfl underlying50 rfl (H0.ikarg hb) ?_
 refine Zo ?_
 refine Z0j (s := 10) (v' := .bool false) rfl (by simp) ?_
 refine Z01 (Z02 ?_)
 refine Zk [0, 1, 10] ?_
 refine Z0Q rfl rfl ?_
 refine Z0a (Z02 ?_)
 refine Zk [0, 1] ?_
 refine Z03 (Z03 (Z00 (Zg (Z01 (Z02 (Z0d ?_))))))
 refine Z0z (ι := Nat) (fun (i : Nat) => (Z18 l).length - i) (fun (i : Nat) (w' : World) => St w w.heap.size Z0J ([]) w' ∧ i ≤ (Z18 l).length) (fun (i : Nat) => [(5, .int .i64 (i : Int))]) [0, 1] (0) ?_ (.cons rfl (.cons rfl .nil)) ?_ ?_
 ·exact ⟨H0, ZO⟩
 ·exact (.cons rfl ZN .nil)
 rintro i w1 ⟨H1, hi⟩
 show RunC P _ _ _ (_ :: _) _
 refine Z03 (Z03 (Z00 (Zm ?_)))
 refine Zm ?_
 refine Z1B rfl rfl underlying50 rfl (H1.ikarg ha) ?_
 refine Zl ?_
 refine Z01 (Z02 ?_)
 refine Zk [0, 1, 5, 14] ?_
 (first | refine Z0c rfl ?_ ?_ | refine Z08 rfl ?_ ?_) <;> intro hc1
 ·refine Z0a (Z02 ?_)
  refine Zk [0, 1, 5] ?_
  refine Z03 (Z0d (Z03 ?_))
  have H2 := H1.drewn
  have hi1 : i < (Z18 l).length := by omega
  have hrw : (Z18 l)[i]? = some [.int .i64 ((l.getD i 0 : Nat) : Int), .int .i64 0] := by
   have hil : i < l.length := by omega
   unfold Z18
   rw [List.getElem?_map]
   simp [List.getD, hil]
  obtain ⟨A6, c6, hA6⟩ : ∃ A c, va = .slice (some A) (Z18 l).length c := by
   obtain ⟨_, A, c, e, _, hs⟩ := H2.ikarg ha
   obtain ⟨ad, rfl⟩ := hs.some_ (by rw [(Z0U _).len]; omega)
   exact ⟨ad, c, e⟩
  obtain ⟨B6, d6, hB6⟩ : ∃ A c, vb = .slice (some A) (Z18 l).length c := by
   obtain ⟨_, A, c, e, _, hs⟩ := H2.ikarg hb
   obtain ⟨ad, rfl⟩ := hs.some_ (by rw [(Z0U _).len]; omega)
   exact ⟨ad, c, e⟩
  refine Z1a (n := 9) [Zz,Zz,Zz,Zz,Zz,Zz,Zz,Zz,Zz] (fun wS => IK wS 2 va (Z18 l) ∧ IK wS 2 vb (Z18 l)) ZK rfl rfl ?_
  apply Zu (L' := [Zy,Zz,Zz,Zz,Zz,Zz,Zz,Zz,Zz]) 0 (⟨H2.ikarg ha, H2.ikarg hb⟩)
  ·intro wS sS
   refine Zm (Z01 ?_)
   exact Z04 rfl
  apply Zu (L' := [Zy,Zy,Zz,Zz,Zz,Zz,Zz,Zz,Zz]) 1 (⟨H2.ikarg ha, H2.ikarg hb⟩)
  ·intro wS sS
   refine Zm (Z01 ?_)
   exact Z04 rfl
  apply Zu (L' := [Zy,Zy,Zy,Zz,Zz,Zz,Zz,Zz,Zz]) 2 (⟨H2.ikarg ha, H2.ikarg hb⟩)
  ·intro wS sS
   refine Z1s (j := i) rfl rfl underlying50 tz87 (by decide) rfl rfl sS.1 hA6 rfl hi1 ?_
   refine Z01 ?_
   exact Z04 rfl
  apply Zu (L' := [Zy,Zy,Zy,Zy,Zz,Zz,Zz,Zz,Zz]) 3 (⟨H2.ikarg ha, H2.ikarg hb⟩)
  ·intro wS sS
   refine Z2w (j := i) rfl rfl underlying87 rfl tz87 rfl hA6 sS.1 hrw ?_
   refine Z01 ?_
   exact Z04 rfl
  apply Zu (L' := [Zy,Zy,Zy,Zy,Zy,Zz,Zz,Zz,Zz]) 4 (⟨H2.ikarg ha, H2.ikarg hb⟩)
  ·intro wS sS
   refine Zm (Z01 ?_)
   exact Z04 rfl
  apply Zu (L' := [Zy,Zy,Zy,Zy,Zy,Zy,Zz,Zz,Zz]) 5 (⟨H2.ikarg ha, H2.ikarg hb⟩)
  ·intro wS sS
   refine Zm (Z01 ?_)
   exact Z04 rfl
  apply Zu (L' := [Zy,Zy,Zy,Zy,Zy,Zy,Zy,Zz,Zz]) 6 (⟨H2.ikarg ha, H2.ikarg hb⟩)
  ·intro wS sS
   refine Z1s (j := i) rfl rfl underlying50 tz87 (by decide) rfl rfl sS.2 hB6 rfl hi1 ?_
   refine Z01 ?_
   exact Z04 rfl
  apply Zu (L' := [Zy,Zy,Zy,Zy,Zy,Zy,Zy,Zy,Zz]) 7 (⟨H2.ikarg ha, H2.ikarg hb⟩)
  ·intro wS sS
   refine Z2w (j := i) rfl rfl underlying87 rfl tz87 rfl hB6 sS.2 hrw ?_
   refine Z01 ?_
   exact Z04 rfl
  apply Zu (L' := [Zy,Zy,Zy,Zy,Zy,Zy,Zy,Zy,Zy]) 8 (⟨H2.ikarg ha, H2.ikarg hb⟩)
  ·intro wS sS
   refine l_neqA rfl rfl fl87 rfl rfl (.int rfl rfl (.int rfl rfl .nil)) ?_
   refine Z0j (s := 25) (v' := .bool false) rfl (by simp) ?_
   refine Z01 ?_
   exact Z04 rfl
  refine Z0B ZK ?_
  refine Z02 ?_
  refine Zk [0, 1, 5, 25] ?_
  refine Z0Q rfl rfl ?_
  refine Z0a ?_
  refine Z0F ?_
  refine Z02 ?_
  refine Zk [0, 1, 5] ?_
  refine Z00 (Zm ?_)
  refine Z0y rfl rfl rfl rfl (Z0l ZO) ?_
  refine Zg (Z01 ?_)
  refine Z0p (i := (i)) (i + 1) ?_ ?_ (.cons rfl (.cons rfl .nil)) ?_
  ·first | omega | (simp; omega)
  ·exact ⟨H2, ZO⟩
  exact (.cons rfl ZN .nil)
 refine Z0H ?_
 refine Z06 ?_
 refine Z06 ?_
 refine Z0h ?_
 refine Z02 ?_
 refine Zk [] ?_
 refine Z03 (Z00 (Zg (Z01 (Z02 ?_))))
 refine Z0i ?_
 refine Z0e results22 rfl ?_
 refine ⟨_, rfl, ?_⟩
 exact ⟨rfl, H1.grows⟩
theorem looksL (gb : Nat) (X : Gm) (hwf : Wf X.abs) (rb : Nat) (Z : GDm) (hXZ : Z.abs = X.abs) (d n k : Int) (pv : Value) (hpv : pv.oneCell' = true) (w : World) (hS : Sep w.heap.size (fps (gW gb X)) w (gW gb X)) (hZ : ∀ w1 : World, (∀ k, k < w.heap.size → ¬ fps (gW gb X) k → w1.heap[k]? = w.heap[k]?) → GDF rb Z w1) :
  Z0f P 16 [ptr gb, ptr rb, .agg #[.int .i64 d, .int .i64 n, pv, .int .i64 k]] w fun r w' => r = .bool true ∧ Z1C w w' (gW gb X) (gW gb X) := by
 refine Z0o func16 rfl ntmps16 rfl ?_
 have H0 : St w w.heap.size (fps (gW gb X)) (gW gb X) w := St.startS hS
 have hwz : Wf Z.abs := by rw [hXZ]; exact hwf
 obtain ⟨lr, hlr, hlr64⟩ := readF_ex hwf n
 have hmgl : (Z0A X.abs).length ≤ 16 := Nat.le_trans (Z2W _ _) hwf.n16
 refine Z03 (Z00 ?_)
 refine l_box H0 rfl rfl rfl (fun b0_0 w1 H1 => ?_)
 refine Zg (Z01 (Z02 ?_))
 refine Zk [0, 1, 5] ?_
 refine Z03 (Z03 (Z00 ?_))
 have H2 := St.frontL (l := [_, _, _, _]) H1
 simp only [Zca, Zna] at H2
 have H3 := St.frontL (l := [_, _, _, _]) H2
 simp only [Zca, Zna] at H3
 have H4 := St.frontL (l := [_, _, _, _]) H3
 simp only [Zca, Zna] at H4
 have H5 := St.frontL (l := [_, _, _, _]) H4
 simp only [Zca, Zna] at H5
 refine Z09 Z1K rfl rfl rfl ?_
 refine Z05 H5 mem4 rfl rfl underlying3 rfl rfl rfl ?_
 refine Z1i rfl rfl rfl rfl rfl (rfl) ?_
 refine Zo ?_
 refine Zm ?_
 apply l_andS H5 6 [0, 1, 5] rfl rfl (.cons rfl (.cons rfl (.cons rfl (.cons rfl .nil)))) rfl rfl (fun _ => rfl) rfl rfl rfl
 ·intro hg1_5
  refine Zm ?_
  refine Zc func23 (MovesG gb X hwf w1 (St.rows (τ := gW gb X) H5)) ?_
  rintro mv w6 ⟨_, rfl, hX2⟩
  have H6 := hX2 _ _ _ _ H5
  simp only [gW, List.cons_append, List.nil_append] at H6
  refine Zm ?_
  refine Z0I rfl rfl func24 rfl rfl (.cons rfl .nil) (MovesR rb Z hwz w6 (hZ _ (fun j hj hn => H6.ext.block j hj hn))) ?_
  rintro mz w7 ⟨_, rfl, hG⟩
  have H7 := hG _ _ _ _ H6
  simp only [Zca, Zna] at H7
  refine Zc func22 (movesL mv mz (Z0A X.abs) ZO w7 (Own.ik (Z0U _) (H7.ok mem5)) (by rw [← hXZ]; exact Own.ik (Z0U _) (H7.ok mem0))) ?_
  rintro _ w8 ⟨rfl, hG⟩
  have H8 := hG _ _ _ _ H7
  simp only [Zca, Zna] at H8
  have H9 := St.frontL (l := [_, _, _, _, _]) H8
  simp only [Zca, Zna] at H9
  have H10 := St.frontL (l := [_]) H9
  simp only [Zca, Zna] at H10
  refine Z3v rfl rfl rfl ?_
  refine Z0j (s := 20) (v' := .bool (decide False)) rfl rfl ?_
  have H12 := St.del .head (St.del (.tail .head) H10)
  refine Z01 ?_
  exact Z1P H12 rfl (.cons rfl (ZT hg1_5) (.cons rfl rfl (.cons rfl rfl (.cons rfl rfl .nil))))
  all_goals infer_instance
 intro w13 H13
 refine Z0j (s := 21) (v' := .bool false) rfl (by exact congrArg Value.bool (decide_eq_false (fun h => h.2))) ?_
 refine Z01 (Z02 ?_)
 refine Zk [0, 1, 5, 21] ?_
 refine Z0Q rfl rfl ?_
 refine Z0a (Z02 ?_)
 refine Zk [0, 1, 5] ?_
 refine Z03 (Z03 ?_)
 have H14 := H13.drewn
 refine Z1a (n := 15) [Zz,Zz,Zz,Zz,Zz,Zz,Zz,Zz,Zz,Zz,Zz,Zz,Zz,Zz,Zz] (fun wS => (As.blk b0_0 36 [.int .i64 d, .int .i64 n, pv, .int .i64 k]).ok wS) ZK rfl rfl ?_
 rcases Classical.em (¬ (bitw .and .i64 k 2 = 0)) with hsp3 | hsp3
 ·apply Zu (L' := [Zy,Zz,Zz,Zz,Zz,Zz,Zz,Zz,Zz,Zz,Zz,Zz,Zz,Zz,Zz]) 0 (H14.ok mem4)
  ·intro wS sS
   refine Z09 Z1K rfl rfl rfl (Z01 ?_)
   exact Z04 rfl
  apply Zu (L' := [Zy,Zy,Zz,Zz,Zz,Zz,Zz,Zz,Zz,Zz,Zz,Zz,Zz,Zz,Zz]) 1 (H14.ok mem4)
  ·intro wS sS
   refine Z05 (Z0r sS) mem0 rfl rfl underlying3 rfl rfl rfl ?_
   refine Z01 ?_
   exact Z04 rfl
  apply Zu (L' := [Zy,Zy,Zy,Zz,Zz,Zz,Zz,Zz,Zz,Zz,Zz,Zz,Zz,Zz,Zz]) 2 (H14.ok mem4)
  ·intro wS sS
   refine Z1i rfl rfl rfl rfl rfl (rfl) ?_
   refine Z01 ?_
   exact Z04 rfl
  apply Zu (L' := [Zy,Zy,Zy,Zy,Zz,Zz,Zz,Zz,Zz,Zz,Zz,Zz,Zz,Zz,Zz]) 3 (H14.ok mem4)
  ·intro wS sS
   refine Zo ?_
   refine Z01 ?_
   exact Z04 rfl
  apply Zu (L' := [Zy,Zy,Zy,Zy,Zy,Zz,Zz,Zz,Zz,Zz,Zz,Zz,Zz,Zz,Zz]) 4 (H14.ok mem4)
  ·intro wS sS
   refine Zm ?_
   refine Z0j (s := 26) (v' := .bool true) rfl (by exact congrArg Value.bool (decide_eq_true (by first | exact hsp3 | simpa using hsp3))) ?_
   refine Z01 ?_
   exact Z04 rfl
  apply Zu (L' := [Zy,Zy,Zy,Zy,Zy,Zy,Zz,Zz,Zz,Zz,Zz,Zz,Zz,Zz,Zz]) 5 (H14.ok mem4)
  ·intro wS sS
   refine Zm (Z01 ?_)
   exact Z04 rfl
  apply Zu (L' := [Zy,Zy,Zy,Zy,Zy,Zy,Zy,Zz,Zz,Zz,Zz,Zz,Zz,Zz,Zz]) 6 (H14.ok mem4)
  ·intro wS sS
   refine Z09 Z1x rfl rfl rfl (Z01 ?_)
   exact Z04 rfl
  apply Zu (L' := [Zy,Zy,Zy,Zy,Zy,Zy,Zy,Zy,Zz,Zz,Zz,Zz,Zz,Zz,Zz]) 7 (H14.ok mem4)
  ·intro wS sS
   refine Z05 (Z0r sS) mem0 rfl rfl underlying3 rfl rfl rfl ?_
   refine Z01 ?_
   exact Z04 rfl
  apply Zu (L' := [Zy,Zy,Zy,Zy,Zy,Zy,Zy,Zy,Zz,Zy,Zz,Zz,Zz,Zz,Zz]) 9 (H14.ok mem4)
  ·intro wS sS
   refine Zm (Z01 ?_)
   exact Z04 rfl
  apply Zu (L' := [Zy,Zy,Zy,Zy,Zy,Zy,Zy,Zy,Zz,Zy,Zy,Zz,Zz,Zz,Zz]) 10 (H14.ok mem4)
  ·intro wS sS
   refine Z09 Z1x rfl rfl rfl (Z01 ?_)
   exact Z04 rfl
  apply Zu (L' := [Zy,Zy,Zy,Zy,Zy,Zy,Zy,Zy,Zz,Zy,Zy,Zy,Zz,Zz,Zz]) 11 (H14.ok mem4)
  ·intro wS sS
   refine Z05 (Z0r sS) mem0 rfl rfl underlying3 rfl rfl rfl ?_
   refine Z01 ?_
   exact Z04 rfl
  refine Z0v (L' := [Zy,Zy,Zy,Zy,Zy,Zy,Zy,Zy,Zy,Zy,Zy,Zy,Zz,Zz,Zz]) 8 ZK rfl rfl ?_
  refine Zc func17 (HandG gb X hwf n w13.drew (GF.of (σ := _) (b := gb) (X := X) H14)) ?_
  rintro _ w15 ⟨rfl, hG⟩
  have H15 := hG _ _ _ _ H14
  simp only [Zca, Zna] at H15
  refine Z01 ?_
  refine Z0n (H15.ok mem4) ?_
  refine Z0v (L' := [Zy,Zy,Zy,Zy,Zy,Zy,Zy,Zy,Zy,Zy,Zy,Zy,Zy,Zz,Zz]) 12 ZK rfl rfl ?_
  refine Z0I rfl rfl func18 rfl rfl (.cons rfl (.cons rfl .nil)) (SeeR rb Z hwz n w15 (hZ _ (fun j hj hn => H15.ext.block j hj hn))) ?_
  rintro _ w16 ⟨rfl, hG⟩
  have H16 := hG _ _ _ _ H15
  simp only [Zca, Zna] at H16
  refine Z01 ?_
  refine Z0n (H16.ok mem4) ?_
  apply Zu (L' := [Zy,Zy,Zy,Zy,Zy,Zy,Zy,Zy,Zy,Zy,Zy,Zy,Zy,Zy,Zz]) 13 (H16.ok mem4)
  ·intro wS sS
   refine l_neqA rfl rfl fl44 rfl rfl (.int rfl rfl (.int rfl rfl (.int rfl rfl .nil))) ?_
   refine Z01 ?_
   exact Z04 rfl
  apply Zu (L' := [Zy,Zy,Zy,Zy,Zy,Zy,Zy,Zy,Zy,Zy,Zy,Zy,Zy,Zy,Zy]) 14 (H16.ok mem4)
  ·intro wS sS
   refine Z1l rfl rfl rfl rfl ?_
   refine Z0j (s := 36) (v' := .bool false) rfl (by first | rfl | (rw [hXZ]; simp)) ?_
   refine Z01 ?_
   exact Z04 rfl
  refine Z0B ZK ?_
  refine Z02 ?_
  refine Zk [0, 1, 5, 36] ?_
  refine Z0Q rfl rfl ?_
  refine Z0a (Z02 ?_)
  refine Zk [0, 1, 5] ?_
  refine Z03 (Z03 ?_)
  have H17 := H16.drewn
  refine Z1a (n := 16) [Zz,Zz,Zz,Zz,Zz,Zz,Zz,Zz,Zz,Zz,Zz,Zz,Zz,Zz,Zz,Zz] (fun wS => (As.blk b0_0 36 [.int .i64 d, .int .i64 n, pv, .int .i64 k]).ok wS) ZK rfl rfl ?_
  rcases Classical.em (¬ (bitw .and .i64 k 4 = 0)) with hsp5 | hsp5
  ·apply Zu (L' := [Zy,Zz,Zz,Zz,Zz,Zz,Zz,Zz,Zz,Zz,Zz,Zz,Zz,Zz,Zz,Zz]) 0 (H17.ok mem4)
   ·intro wS sS
    refine Z09 Z1K rfl rfl rfl (Z01 ?_)
    exact Z04 rfl
   apply Zu (L' := [Zy,Zy,Zz,Zz,Zz,Zz,Zz,Zz,Zz,Zz,Zz,Zz,Zz,Zz,Zz,Zz]) 1 (H17.ok mem4)
   ·intro wS sS
    refine Z05 (Z0r sS) mem0 rfl rfl underlying3 rfl rfl rfl ?_
    refine Z01 ?_
    exact Z04 rfl
   apply Zu (L' := [Zy,Zy,Zy,Zz,Zz,Zz,Zz,Zz,Zz,Zz,Zz,Zz,Zz,Zz,Zz,Zz]) 2 (H17.ok mem4)
   ·intro wS sS
    refine Z1i rfl rfl rfl rfl rfl (rfl) ?_
    refine Z01 ?_
    exact Z04 rfl
   apply Zu (L' := [Zy,Zy,Zy,Zy,Zz,Zz,Zz,Zz,Zz,Zz,Zz,Zz,Zz,Zz,Zz,Zz]) 3 (H17.ok mem4)
   ·intro wS sS
    refine Zo ?_
    refine Z01 ?_
    exact Z04 rfl
   apply Zu (L' := [Zy,Zy,Zy,Zy,Zy,Zz,Zz,Zz,Zz,Zz,Zz,Zz,Zz,Zz,Zz,Zz]) 4 (H17.ok mem4)
   ·intro wS sS
    refine Zm ?_
    refine Z0j (s := 41) (v' := .bool true) rfl (by exact congrArg Value.bool (decide_eq_true (by first | exact hsp5 | simpa using hsp5))) ?_
    refine Z01 ?_
    exact Z04 rfl
   apply Zu (L' := [Zy,Zy,Zy,Zy,Zy,Zy,Zz,Zz,Zz,Zz,Zz,Zz,Zz,Zz,Zz,Zz]) 5 (H17.ok mem4)
   ·intro wS sS
    refine Zm (Z01 ?_)
    exact Z04 rfl
   apply Zu (L' := [Zy,Zy,Zy,Zy,Zy,Zy,Zy,Zz,Zz,Zz,Zz,Zz,Zz,Zz,Zz,Zz]) 6 (H17.ok mem4)
   ·intro wS sS
    refine Z09 Z1x rfl rfl rfl (Z01 ?_)
    exact Z04 rfl
   apply Zu (L' := [Zy,Zy,Zy,Zy,Zy,Zy,Zy,Zy,Zz,Zz,Zz,Zz,Zz,Zz,Zz,Zz]) 7 (H17.ok mem4)
   ·intro wS sS
    refine Z05 (Z0r sS) mem0 rfl rfl underlying3 rfl rfl rfl ?_
    refine Z01 ?_
    exact Z04 rfl
   apply Zu (L' := [Zy,Zy,Zy,Zy,Zy,Zy,Zy,Zy,Zz,Zy,Zz,Zz,Zz,Zz,Zz,Zz]) 9 (H17.ok mem4)
   ·intro wS sS
    refine Zm (Z01 ?_)
    exact Z04 rfl
   apply Zu (L' := [Zy,Zy,Zy,Zy,Zy,Zy,Zy,Zy,Zz,Zy,Zy,Zz,Zz,Zz,Zz,Zz]) 10 (H17.ok mem4)
   ·intro wS sS
    refine Z09 Z1x rfl rfl rfl (Z01 ?_)
    exact Z04 rfl
   apply Zu (L' := [Zy,Zy,Zy,Zy,Zy,Zy,Zy,Zy,Zz,Zy,Zy,Zy,Zz,Zz,Zz,Zz]) 11 (H17.ok mem4)
   ·intro wS sS
    refine Z05 (Z0r sS) mem0 rfl rfl underlying3 rfl rfl rfl ?_
    refine Z01 ?_
    exact Z04 rfl
   refine Z0v (L' := [Zy,Zy,Zy,Zy,Zy,Zy,Zy,Zy,Zy,Zy,Zy,Zy,Zz,Zz,Zz,Zz]) 8 ZK rfl rfl ?_
   refine Zc func20 (ReadG gb X hwf n w16.drew (GF.of (σ := _) (b := gb) (X := X) H17)) ?_
   rintro ra w18 ⟨_, rfl, hG⟩
   have H18 := hG _ _ _ _ H17
   simp only [Zca, Zna] at H18
   refine Z01 ?_
   refine Z0n (H18.ok mem5) ?_
   refine Z0v (L' := [Zy,Zy,Zy,Zy,Zy,Zy,Zy,Zy,Zy,Zy,Zy,Zy,Zy,Zz,Zz,Zz]) 12 ZK rfl rfl ?_
   refine Z13 rfl rfl func21 rfl rfl (.cons rfl (.cons rfl .nil)) (ReadR rb Z hwz n _ (hZ _ (fun j hj hn => H18.ext.block j hj hn))) ?_
   refine Z01 ?_
   refine Z0n (H18.ok mem5) ?_
   refine Z0v (L' := [Zy,Zy,Zy,Zy,Zy,Zy,Zy,Zy,Zy,Zy,Zy,Zy,Zy,Zy,Zz,Zz]) 13 ZK rfl rfl ?_
   refine Z0I rfl rfl func19 rfl rfl (.cons rfl (.cons rfl .nil)) (widesL ra (readV Z n) lr ZO w18 (by rw [← hlr]; exact Own.ik (Z27 _ _) (H18.ok mem0)) (by rw [← hlr, ← hXZ]; exact Z4t (hZ _ (fun j hj hn => H18.ext.block j hj hn)) n)) ?_
   rintro _ w19 ⟨rfl, hG⟩
   have H19 := hG _ _ _ _ H18
   simp only [Zca, Zna] at H19
   refine Z01 ?_
   refine Z0n (H19.ok mem5) ?_
   apply Zu (L' := [Zy,Zy,Zy,Zy,Zy,Zy,Zy,Zy,Zy,Zy,Zy,Zy,Zy,Zy,Zy,Zz]) 14 (H19.ok mem5)
   ·intro wS sS
    first | refine Z38 rfl rfl rfl ?_ | refine Z3v rfl rfl rfl ?_
    refine Z01 ?_
    exact Z04 rfl
   apply Zu (L' := [Zy,Zy,Zy,Zy,Zy,Zy,Zy,Zy,Zy,Zy,Zy,Zy,Zy,Zy,Zy,Zy]) 15 (H19.ok mem5)
   ·intro wS sS
    refine Z1l rfl rfl rfl rfl ?_
    refine Z0j (s := 52) (v' := .bool false) rfl (by rfl) ?_
    refine Z01 ?_
    exact Z04 rfl
   refine Z0B ZK ?_
   refine Z02 ?_
   refine Zk [0, 1, 5, 52] ?_
   refine Z0Q rfl rfl ?_
   refine Z0a (Z02 ?_)
   refine Zk [0, 1, 5] ?_
   refine Z03 (Z03 (Z00 ?_))
   have H20 := St.frontL (l := [_, _, _, _]) H19
   simp only [Zca, Zna] at H20
   have H21 := St.frontL (l := [_, _, _, _]) H20
   simp only [Zca, Zna] at H21
   have H22 := St.frontL (l := [_, _, _, _]) H21
   simp only [Zca, Zna] at H22
   have H23 := St.frontL (l := [_, _, _, _]) H22
   simp only [Zca, Zna] at H23
   refine Z09 Z1K rfl rfl rfl ?_
   refine Z05 H23 mem5 rfl rfl underlying3 rfl rfl rfl ?_
   refine Z1i rfl rfl rfl rfl rfl (rfl) ?_
   refine Zo ?_
   refine Z01 (Z02 ?_)
   refine Zk [0, 1, 5, 56] ?_
   (first | refine Z0c rfl ?_ ?_ | refine Z08 rfl ?_ ?_) <;> intro hc3
   ·refine Z03 ?_
    have H24 := H23.drewn
    refine Z1a (n := 13) [Zz,Zz,Zz,Zz,Zz,Zz,Zz,Zz,Zz,Zz,Zz,Zz,Zz] (fun wS => (As.blk b0_0 36 [.int .i64 d, .int .i64 n, pv, .int .i64 k]).ok wS) ZK rfl rfl ?_
    apply Zu (L' := [Zy,Zz,Zz,Zz,Zz,Zz,Zz,Zz,Zz,Zz,Zz,Zz,Zz]) 0 (H24.ok mem5)
    ·intro wS sS
     refine Zm (Z01 ?_)
     exact Z04 rfl
    refine Z0N (L' := [Zy,Zy,Zz,Zz,Zz,Zz,Zz,Zz,Zz,Zz,Zz,Zz,Zz]) 1 rfl ZK ZK ZK rfl rfl rfl (H24.ok mem5) rfl ?_
    apply Zu (L' := [Zy,Zy,Zy,Zz,Zz,Zz,Zz,Zz,Zz,Zz,Zz,Zz,Zz]) 2 (H24.ok mem5)
    ·intro wS sS
     refine Z09 Z3z rfl rfl rfl (Z01 ?_)
     exact Z04 rfl
    apply Zu (L' := [Zy,Zy,Zy,Zy,Zz,Zz,Zz,Zz,Zz,Zz,Zz,Zz,Zz]) 3 (H24.ok mem5)
    ·intro wS sS
     refine Z09 Z1x rfl rfl rfl (Z01 ?_)
     exact Z04 rfl
    apply Zu (L' := [Zy,Zy,Zy,Zy,Zy,Zz,Zz,Zz,Zz,Zz,Zz,Zz,Zz]) 4 (H24.ok mem5)
    ·intro wS sS
     refine Z05 (Z0r sS) mem0 rfl rfl underlying3 rfl rfl rfl ?_
     refine Z01 ?_
     exact Z04 rfl
    refine Z0v (L' := [Zy,Zy,Zy,Zy,Zy,Zy,Zz,Zz,Zz,Zz,Zz,Zz,Zz]) 5 ZK rfl rfl ?_
    refine Z0I rfl rfl func38 rfl rfl (.cons rfl (.cons rfl .nil)) (TellsR rb Z hwz n w19.drew (hZ _ (fun j hj hn => H24.ext.block j hj hn))) ?_
    rintro _ w25 ⟨rfl, hG⟩
    have H25 := hG _ _ _ _ H24
    simp only [Zca, Zna] at H25
    refine Z01 ?_
    refine Z0n (H25.ok mem5) ?_
    apply Zu (L' := [Zy,Zy,Zy,Zy,Zy,Zy,Zy,Zz,Zz,Zz,Zz,Zz,Zz]) 6 (H25.ok mem5)
    ·intro wS sS
     refine Zm (Z01 ?_)
     exact Z04 rfl
    apply Zu (L' := [Zy,Zy,Zy,Zy,Zy,Zy,Zy,Zy,Zz,Zz,Zz,Zz,Zz]) 7 (H25.ok mem5)
    ·intro wS sS
     refine Zx (Z01 ?_)
     exact Z04 rfl
    apply Zu (L' := [Zy,Zy,Zy,Zy,Zy,Zy,Zy,Zy,Zy,Zz,Zz,Zz,Zz]) 8 (H25.ok mem5)
    ·intro wS sS
     refine Zx (Z01 ?_)
     exact Z04 rfl
    apply Zu (L' := [Zy,Zy,Zy,Zy,Zy,Zy,Zy,Zy,Zy,Zy,Zz,Zz,Zz]) 9 (H25.ok mem5)
    ·intro wS sS
     refine Zx (Z01 ?_)
     exact Z04 rfl
    apply Zu (L' := [Zy,Zy,Zy,Zy,Zy,Zy,Zy,Zy,Zy,Zy,Zy,Zz,Zz]) 10 (H25.ok mem5)
    ·intro wS sS
     refine Zg (Z01 ?_)
     exact Z04 rfl
    apply Zu (L' := [Zy,Zy,Zy,Zy,Zy,Zy,Zy,Zy,Zy,Zy,Zy,Zy,Zz]) 11 (H25.ok mem5)
    ·intro wS sS
     refine Zg (Z01 ?_)
     exact Z04 rfl
    apply Zu (L' := [Zy,Zy,Zy,Zy,Zy,Zy,Zy,Zy,Zy,Zy,Zy,Zy,Zy]) 12 (H25.ok mem5)
    ·intro wS sS
     refine Zg (Z01 ?_)
     exact Z04 rfl
    refine Z0B ZK ?_
    refine Z02 ?_
    refine Zk [0, 1, 5, 7, 8, 9] ?_
    refine Z03 (Z00 (Zm (Z09 Z1x rfl rfl rfl ?_)))
    refine Z05 H25 mem5 rfl rfl underlying3 rfl rfl rfl ?_
    refine Zp func31 (BuiltG gb X hwf.sgX n w25 (GF.of (σ := _) (b := gb) (X := X) H25)) ?_
    refine Zm ?_
    refine Zo ?_
    refine Z0j (s := 72) (v' := .bool false) rfl (by rw [hXZ]; simp) ?_
    refine Zm ?_
    refine Zm (Z09 Z1x rfl rfl rfl ?_)
    refine Z05 H25 mem5 rfl rfl underlying3 rfl rfl rfl ?_
    refine Zp func39 (LaidG gb X hwf n w25 (GF.of (σ := _) (b := gb) (X := X) H25)) ?_
    refine Zm ?_
    refine Zo ?_
    refine Z0j (s := 79) (v' := .bool false) rfl (by rw [hXZ]; simp) ?_
    refine Z0Z rfl rfl rfl rfl ?_
    refine Zm ?_
    refine Zm (Z09 Z1x rfl rfl rfl ?_)
    refine Z05 H25 mem5 rfl rfl underlying3 rfl rfl rfl ?_
    refine Zp func40 (Z3o gb X hwf.sgX n w25 (GF.of (σ := _) (b := gb) (X := X) H25)) ?_
    refine Zm ?_
    refine Z4o underlying4 rfl rfl rfl rfl ?_
    refine Z0j (s := 87) (v' := .bool false) rfl (by rw [hXZ]; simp) ?_
    refine Z0Z rfl rfl rfl rfl ?_
    refine Z01 (Z02 ?_)
    refine Zk [0, 1, 5, 88] ?_
    refine Z0Q rfl rfl ?_
    refine Z0a (Z02 ?_)
    refine Zk [0, 1, 5] ?_
    refine Z03 (Z00 (Z09 Z1K rfl rfl rfl ?_))
    refine Z05 H25 mem5 rfl rfl underlying3 rfl rfl rfl ?_
    refine Z1i rfl rfl rfl rfl rfl (rfl) ?_
    refine Ze ?_
    refine Zm ?_
    apply l_orS H25 5 [] rfl rfl (.cons rfl .nil) rfl rfl (fun _ => rfl) rfl rfl rfl
    ·intro hg11_5
     refine Zm ?_
     refine Zc func25 (Z4h gb X hwf w25 (GF.of (σ := _) (b := gb) (X := X) H25)) ?_
     rintro _ w26 ⟨rfl, hG⟩
     have H26 := hG _ _ _ _ H25
     simp only [Zca, Zna] at H26
     refine Zm ?_
     refine Z0I rfl rfl func26 rfl rfl (.cons rfl .nil) (Z4s rb Z hwz w26 (hZ _ (fun j hj hn => H26.ext.block j hj hn))) ?_
     rintro _ w27 ⟨rfl, hG⟩
     have H27 := hG _ _ _ _ H26
     simp only [Zca, Zna] at H27
     refine Z3t underlying4 rfl rfl rfl rfl ?_
     refine Z01 ?_
     exact Z1P H27 rfl (.cons rfl (ZF hg11_5) .nil)
     all_goals infer_instance
    intro w28 H28
    refine Zg (Z01 (Z02 ?_))
    refine Zk [6] ?_
    refine Z0i ?_
    refine Z0e results16 rfl ?_
    refine ⟨_, rfl, ?_⟩
    have H34 := St.del (.tail (.tail (.tail (.tail .head)))) (St.del (.tail (.tail (.tail (.tail (.tail .head))))) (St.front3 (St.front3 (St.front3 (St.front3 H28)))))
    exact ⟨congrArg Value.bool (decide_eq_true (.inr (by rw [hXZ]))), H34.transS⟩
   refine Z0a (Z02 ?_)
   refine Zk [0, 1, 5] ?_
   refine Z03 (Z00 (Z09 Z1K rfl rfl rfl ?_))
   refine Z05 H23 mem5 rfl rfl underlying3 rfl rfl rfl ?_
   refine Z1i rfl rfl rfl rfl rfl (rfl) ?_
   refine Ze ?_
   refine Zm ?_
   apply l_orS H23 5 [] rfl rfl (.cons rfl .nil) rfl rfl (fun _ => rfl) rfl rfl rfl
   ·intro hg11_5
    refine Zm ?_
    refine Zc func25 (Z4h gb X hwf w19 (GF.of (σ := _) (b := gb) (X := X) H23)) ?_
    rintro _ w35 ⟨rfl, hG⟩
    have H35 := hG _ _ _ _ H23
    simp only [Zca, Zna] at H35
    refine Zm ?_
    refine Z0I rfl rfl func26 rfl rfl (.cons rfl .nil) (Z4s rb Z hwz w35 (hZ _ (fun j hj hn => H35.ext.block j hj hn))) ?_
    rintro _ w36 ⟨rfl, hG⟩
    have H36 := hG _ _ _ _ H35
    simp only [Zca, Zna] at H36
    refine Z3t underlying4 rfl rfl rfl rfl ?_
    refine Z01 ?_
    exact Z1P H36 rfl (.cons rfl (ZF hg11_5) .nil)
    all_goals infer_instance
   intro w37 H37
   refine Zg (Z01 (Z02 ?_))
   refine Zk [6] ?_
   refine Z0i ?_
   refine Z0e results16 rfl ?_
   refine ⟨_, rfl, ?_⟩
   have H43 := St.del (.tail (.tail (.tail (.tail .head)))) (St.del (.tail (.tail (.tail (.tail (.tail .head))))) (St.front3 (St.front3 (St.front3 (St.front3 H37)))))
   exact ⟨congrArg Value.bool (decide_eq_true (.inr (by rw [hXZ]))), H43.transS⟩
  apply Zu (L' := [Zy,Zz,Zz,Zz,Zz,Zz,Zz,Zz,Zz,Zz,Zz,Zz,Zz,Zz,Zz,Zz]) 0 (H17.ok mem4)
  ·intro wS sS
   refine Z09 Z1K rfl rfl rfl (Z01 ?_)
   exact Z04 rfl
  apply Zu (L' := [Zy,Zy,Zz,Zz,Zz,Zz,Zz,Zz,Zz,Zz,Zz,Zz,Zz,Zz,Zz,Zz]) 1 (H17.ok mem4)
  ·intro wS sS
   refine Z05 (Z0r sS) mem0 rfl rfl underlying3 rfl rfl rfl ?_
   refine Z01 ?_
   exact Z04 rfl
  apply Zu (L' := [Zy,Zy,Zy,Zz,Zz,Zz,Zz,Zz,Zz,Zz,Zz,Zz,Zz,Zz,Zz,Zz]) 2 (H17.ok mem4)
  ·intro wS sS
   refine Z1i rfl rfl rfl rfl rfl (rfl) ?_
   refine Z01 ?_
   exact Z04 rfl
  apply Zu (L' := [Zy,Zy,Zy,Zy,Zz,Zz,Zz,Zz,Zz,Zz,Zz,Zz,Zz,Zz,Zz,Zz]) 3 (H17.ok mem4)
  ·intro wS sS
   refine Zo ?_
   refine Z01 ?_
   exact Z04 rfl
  apply Zu (L' := [Zy,Zy,Zy,Zy,Zy,Zz,Zz,Zz,Zz,Zz,Zz,Zz,Zz,Zz,Zz,Zz]) 4 (H17.ok mem4)
  ·intro wS sS
   refine Zm ?_
   refine Z0j (s := 41) (v' := .bool false) rfl (by exact congrArg Value.bool (decide_eq_false (by first | exact hsp5 | simpa using hsp5))) ?_
   refine Z01 ?_
   exact Z04 rfl
  refine Z10 (L' := [Zy,Zy,Zy,Zy,Zy,Zy,Zz,Zz,Zz,Zz,Zz,Zz,Zz,Zz,Zz,Zz]) 5 rfl ZK ZK ZK rfl rfl rfl rfl (H17.ok mem4) ?_
  refine Z10 (L' := [Zy,Zy,Zy,Zy,Zy,Zy,Zy,Zz,Zz,Zz,Zz,Zz,Zz,Zz,Zz,Zz]) 6 rfl ZK ZK ZK rfl rfl rfl rfl (H17.ok mem4) ?_
  refine Z10 (L' := [Zy,Zy,Zy,Zy,Zy,Zy,Zy,Zy,Zz,Zz,Zz,Zz,Zz,Zz,Zz,Zz]) 7 rfl ZK ZK ZK rfl rfl rfl rfl (H17.ok mem4) ?_
  refine Z10 (L' := [Zy,Zy,Zy,Zy,Zy,Zy,Zy,Zy,Zy,Zz,Zz,Zz,Zz,Zz,Zz,Zz]) 8 rfl ZK ZK ZK rfl rfl rfl rfl (H17.ok mem4) ?_
  refine Z10 (L' := [Zy,Zy,Zy,Zy,Zy,Zy,Zy,Zy,Zy,Zy,Zz,Zz,Zz,Zz,Zz,Zz]) 9 rfl ZK ZK ZK rfl rfl rfl rfl (H17.ok mem4) ?_
  refine Z10 (L' := [Zy,Zy,Zy,Zy,Zy,Zy,Zy,Zy,Zy,Zy,Zy,Zz,Zz,Zz,Zz,Zz]) 10 rfl ZK ZK ZK rfl rfl rfl rfl (H17.ok mem4) ?_
  refine Z10 (L' := [Zy,Zy,Zy,Zy,Zy,Zy,Zy,Zy,Zy,Zy,Zy,Zy,Zz,Zz,Zz,Zz]) 11 rfl ZK ZK ZK rfl rfl rfl rfl (H17.ok mem4) ?_
  refine Z10 (L' := [Zy,Zy,Zy,Zy,Zy,Zy,Zy,Zy,Zy,Zy,Zy,Zy,Zy,Zz,Zz,Zz]) 12 rfl ZK ZK ZK rfl rfl rfl rfl (H17.ok mem4) ?_
  refine Z10 (L' := [Zy,Zy,Zy,Zy,Zy,Zy,Zy,Zy,Zy,Zy,Zy,Zy,Zy,Zy,Zz,Zz]) 13 rfl ZK ZK ZK rfl rfl rfl rfl (H17.ok mem4) ?_
  refine Z10 (L' := [Zy,Zy,Zy,Zy,Zy,Zy,Zy,Zy,Zy,Zy,Zy,Zy,Zy,Zy,Zy,Zz]) 14 rfl ZK ZK ZK rfl rfl rfl rfl (H17.ok mem4) ?_
  apply Zu (L' := [Zy,Zy,Zy,Zy,Zy,Zy,Zy,Zy,Zy,Zy,Zy,Zy,Zy,Zy,Zy,Zy]) 15 (H17.ok mem4)
  ·intro wS sS
   refine Z0Z rfl rfl rfl rfl ?_
   refine Z0j (s := 52) (v' := .bool false) rfl (by rfl) ?_
   refine Z01 ?_
   exact Z04 rfl
  refine Z0B ZK ?_
  refine Z02 ?_
  refine Zk [0, 1, 5, 52] ?_
  refine Z0Q rfl rfl ?_
  refine Z0a (Z02 ?_)
  refine Zk [0, 1, 5] ?_
  refine Z03 (Z03 (Z00 ?_))
  have H44 := St.frontL (l := [_, _, _]) H17
  simp only [Zca, Zna] at H44
  have H45 := St.frontL (l := [_, _, _]) H44
  simp only [Zca, Zna] at H45
  have H46 := St.frontL (l := [_, _, _]) H45
  simp only [Zca, Zna] at H46
  have H47 := St.frontL (l := [_, _, _]) H46
  simp only [Zca, Zna] at H47
  refine Z09 Z1K rfl rfl rfl ?_
  refine Z05 H47 mem4 rfl rfl underlying3 rfl rfl rfl ?_
  refine Z1i rfl rfl rfl rfl rfl (rfl) ?_
  refine Zo ?_
  refine Z01 (Z02 ?_)
  refine Zk [0, 1, 5, 56] ?_
  (first | refine Z0c rfl ?_ ?_ | refine Z08 rfl ?_ ?_) <;> intro hc3
  ·refine Z03 ?_
   have H48 := H47.drewn
   refine Z1a (n := 13) [Zz,Zz,Zz,Zz,Zz,Zz,Zz,Zz,Zz,Zz,Zz,Zz,Zz] (fun wS => (As.blk b0_0 36 [.int .i64 d, .int .i64 n, pv, .int .i64 k]).ok wS) ZK rfl rfl ?_
   apply Zu (L' := [Zy,Zz,Zz,Zz,Zz,Zz,Zz,Zz,Zz,Zz,Zz,Zz,Zz]) 0 (H48.ok mem4)
   ·intro wS sS
    refine Zm (Z01 ?_)
    exact Z04 rfl
   refine Z0N (L' := [Zy,Zy,Zz,Zz,Zz,Zz,Zz,Zz,Zz,Zz,Zz,Zz,Zz]) 1 rfl ZK ZK ZK rfl rfl rfl (H48.ok mem4) rfl ?_
   apply Zu (L' := [Zy,Zy,Zy,Zz,Zz,Zz,Zz,Zz,Zz,Zz,Zz,Zz,Zz]) 2 (H48.ok mem4)
   ·intro wS sS
    refine Z09 Z3z rfl rfl rfl (Z01 ?_)
    exact Z04 rfl
   apply Zu (L' := [Zy,Zy,Zy,Zy,Zz,Zz,Zz,Zz,Zz,Zz,Zz,Zz,Zz]) 3 (H48.ok mem4)
   ·intro wS sS
    refine Z09 Z1x rfl rfl rfl (Z01 ?_)
    exact Z04 rfl
   apply Zu (L' := [Zy,Zy,Zy,Zy,Zy,Zz,Zz,Zz,Zz,Zz,Zz,Zz,Zz]) 4 (H48.ok mem4)
   ·intro wS sS
    refine Z05 (Z0r sS) mem0 rfl rfl underlying3 rfl rfl rfl ?_
    refine Z01 ?_
    exact Z04 rfl
   refine Z0v (L' := [Zy,Zy,Zy,Zy,Zy,Zy,Zz,Zz,Zz,Zz,Zz,Zz,Zz]) 5 ZK rfl rfl ?_
   refine Z0I rfl rfl func38 rfl rfl (.cons rfl (.cons rfl .nil)) (TellsR rb Z hwz n (w16.drew).drew (hZ _ (fun j hj hn => H48.ext.block j hj hn))) ?_
   rintro _ w49 ⟨rfl, hG⟩
   have H49 := hG _ _ _ _ H48
   simp only [Zca, Zna] at H49
   refine Z01 ?_
   refine Z0n (H49.ok mem4) ?_
   apply Zu (L' := [Zy,Zy,Zy,Zy,Zy,Zy,Zy,Zz,Zz,Zz,Zz,Zz,Zz]) 6 (H49.ok mem4)
   ·intro wS sS
    refine Zm (Z01 ?_)
    exact Z04 rfl
   apply Zu (L' := [Zy,Zy,Zy,Zy,Zy,Zy,Zy,Zy,Zz,Zz,Zz,Zz,Zz]) 7 (H49.ok mem4)
   ·intro wS sS
    refine Zx (Z01 ?_)
    exact Z04 rfl
   apply Zu (L' := [Zy,Zy,Zy,Zy,Zy,Zy,Zy,Zy,Zy,Zz,Zz,Zz,Zz]) 8 (H49.ok mem4)
   ·intro wS sS
    refine Zx (Z01 ?_)
    exact Z04 rfl
   apply Zu (L' := [Zy,Zy,Zy,Zy,Zy,Zy,Zy,Zy,Zy,Zy,Zz,Zz,Zz]) 9 (H49.ok mem4)
   ·intro wS sS
    refine Zx (Z01 ?_)
    exact Z04 rfl
   apply Zu (L' := [Zy,Zy,Zy,Zy,Zy,Zy,Zy,Zy,Zy,Zy,Zy,Zz,Zz]) 10 (H49.ok mem4)
   ·intro wS sS
    refine Zg (Z01 ?_)
    exact Z04 rfl
   apply Zu (L' := [Zy,Zy,Zy,Zy,Zy,Zy,Zy,Zy,Zy,Zy,Zy,Zy,Zz]) 11 (H49.ok mem4)
   ·intro wS sS
    refine Zg (Z01 ?_)
    exact Z04 rfl
   apply Zu (L' := [Zy,Zy,Zy,Zy,Zy,Zy,Zy,Zy,Zy,Zy,Zy,Zy,Zy]) 12 (H49.ok mem4)
   ·intro wS sS
    refine Zg (Z01 ?_)
    exact Z04 rfl
   refine Z0B ZK ?_
   refine Z02 ?_
   refine Zk [0, 1, 5, 7, 8, 9] ?_
   refine Z03 (Z00 (Zm (Z09 Z1x rfl rfl rfl ?_)))
   refine Z05 H49 mem4 rfl rfl underlying3 rfl rfl rfl ?_
   refine Zp func31 (BuiltG gb X hwf.sgX n w49 (GF.of (σ := _) (b := gb) (X := X) H49)) ?_
   refine Zm ?_
   refine Zo ?_
   refine Z0j (s := 72) (v' := .bool false) rfl (by rw [hXZ]; simp) ?_
   refine Zm ?_
   refine Zm (Z09 Z1x rfl rfl rfl ?_)
   refine Z05 H49 mem4 rfl rfl underlying3 rfl rfl rfl ?_
   refine Zp func39 (LaidG gb X hwf n w49 (GF.of (σ := _) (b := gb) (X := X) H49)) ?_
   refine Zm ?_
   refine Zo ?_
   refine Z0j (s := 79) (v' := .bool false) rfl (by rw [hXZ]; simp) ?_
   refine Z0Z rfl rfl rfl rfl ?_
   refine Zm ?_
   refine Zm (Z09 Z1x rfl rfl rfl ?_)
   refine Z05 H49 mem4 rfl rfl underlying3 rfl rfl rfl ?_
   refine Zp func40 (Z3o gb X hwf.sgX n w49 (GF.of (σ := _) (b := gb) (X := X) H49)) ?_
   refine Zm ?_
   refine Z4o underlying4 rfl rfl rfl rfl ?_
   refine Z0j (s := 87) (v' := .bool false) rfl (by rw [hXZ]; simp) ?_
   refine Z0Z rfl rfl rfl rfl ?_
   refine Z01 (Z02 ?_)
   refine Zk [0, 1, 5, 88] ?_
   refine Z0Q rfl rfl ?_
   refine Z0a (Z02 ?_)
   refine Zk [0, 1, 5] ?_
   refine Z03 (Z00 (Z09 Z1K rfl rfl rfl ?_))
   refine Z05 H49 mem4 rfl rfl underlying3 rfl rfl rfl ?_
   refine Z1i rfl rfl rfl rfl rfl (rfl) ?_
   refine Ze ?_
   refine Zm ?_
   apply l_orS H49 5 [] rfl rfl (.cons rfl .nil) rfl rfl (fun _ => rfl) rfl rfl rfl
   ·intro hg11_5
    refine Zm ?_
    refine Zc func25 (Z4h gb X hwf w49 (GF.of (σ := _) (b := gb) (X := X) H49)) ?_
    rintro _ w50 ⟨rfl, hG⟩
    have H50 := hG _ _ _ _ H49
    simp only [Zca, Zna] at H50
    refine Zm ?_
    refine Z0I rfl rfl func26 rfl rfl (.cons rfl .nil) (Z4s rb Z hwz w50 (hZ _ (fun j hj hn => H50.ext.block j hj hn))) ?_
    rintro _ w51 ⟨rfl, hG⟩
    have H51 := hG _ _ _ _ H50
    simp only [Zca, Zna] at H51
    refine Z3t underlying4 rfl rfl rfl rfl ?_
    refine Z01 ?_
    exact Z1P H51 rfl (.cons rfl (ZF hg11_5) .nil)
    all_goals infer_instance
   intro w52 H52
   refine Zg (Z01 (Z02 ?_))
   refine Zk [6] ?_
   refine Z0i ?_
   refine Z0e results16 rfl ?_
   refine ⟨_, rfl, ?_⟩
   have H57 := St.del (.tail (.tail (.tail (.tail .head)))) (St.front3 (St.front3 (St.front3 (St.front3 H52))))
   exact ⟨congrArg Value.bool (decide_eq_true (.inr (by rw [hXZ]))), H57.transS⟩
  refine Z0a (Z02 ?_)
  refine Zk [0, 1, 5] ?_
  refine Z03 (Z00 (Z09 Z1K rfl rfl rfl ?_))
  refine Z05 H47 mem4 rfl rfl underlying3 rfl rfl rfl ?_
  refine Z1i rfl rfl rfl rfl rfl (rfl) ?_
  refine Ze ?_
  refine Zm ?_
  apply l_orS H47 5 [] rfl rfl (.cons rfl .nil) rfl rfl (fun _ => rfl) rfl rfl rfl
  ·intro hg11_5
   refine Zm ?_
   refine Zc func25 (Z4h gb X hwf w16.drew (GF.of (σ := _) (b := gb) (X := X) H47)) ?_
   rintro _ w58 ⟨rfl, hG⟩
   have H58 := hG _ _ _ _ H47
   simp only [Zca, Zna] at H58
   refine Zm ?_
   refine Z0I rfl rfl func26 rfl rfl (.cons rfl .nil) (Z4s rb Z hwz w58 (hZ _ (fun j hj hn => H58.ext.block j hj hn))) ?_
   rintro _ w59 ⟨rfl, hG⟩
   have H59 := hG _ _ _ _ H58
   simp only [Zca, Zna] at H59
   refine Z3t underlying4 rfl rfl rfl rfl ?_
   refine Z01 ?_
   exact Z1P H59 rfl (.cons rfl (ZF hg11_5) .nil)
   all_goals infer_instance
  intro w60 H60
  refine Zg (Z01 (Z02 ?_))
  refine Zk [6] ?_
  refine Z0i ?_
  refine Z0e results16 rfl ?_
  refine ⟨_, rfl, ?_⟩
  have H65 := St.del (.tail (.tail (.tail (.tail .head)))) (St.front3 (St.front3 (St.front3 (St.front3 H60))))
  exact ⟨congrArg Value.bool (decide_eq_true (.inr (by rw [hXZ]))), H65.transS⟩
 apply Zu (L' := [Zy,Zz,Zz,Zz,Zz,Zz,Zz,Zz,Zz,Zz,Zz,Zz,Zz,Zz,Zz]) 0 (H14.ok mem4)
 ·intro wS sS
  refine Z09 Z1K rfl rfl rfl (Z01 ?_)
  exact Z04 rfl
 apply Zu (L' := [Zy,Zy,Zz,Zz,Zz,Zz,Zz,Zz,Zz,Zz,Zz,Zz,Zz,Zz,Zz]) 1 (H14.ok mem4)
 ·intro wS sS
  refine Z05 (Z0r sS) mem0 rfl rfl underlying3 rfl rfl rfl ?_
  refine Z01 ?_
  exact Z04 rfl
 apply Zu (L' := [Zy,Zy,Zy,Zz,Zz,Zz,Zz,Zz,Zz,Zz,Zz,Zz,Zz,Zz,Zz]) 2 (H14.ok mem4)
 ·intro wS sS
  refine Z1i rfl rfl rfl rfl rfl (rfl) ?_
  refine Z01 ?_
  exact Z04 rfl
 apply Zu (L' := [Zy,Zy,Zy,Zy,Zz,Zz,Zz,Zz,Zz,Zz,Zz,Zz,Zz,Zz,Zz]) 3 (H14.ok mem4)
 ·intro wS sS
  refine Zo ?_
  refine Z01 ?_
  exact Z04 rfl
 apply Zu (L' := [Zy,Zy,Zy,Zy,Zy,Zz,Zz,Zz,Zz,Zz,Zz,Zz,Zz,Zz,Zz]) 4 (H14.ok mem4)
 ·intro wS sS
  refine Zm ?_
  refine Z0j (s := 26) (v' := .bool false) rfl (by exact congrArg Value.bool (decide_eq_false (by first | exact hsp3 | simpa using hsp3))) ?_
  refine Z01 ?_
  exact Z04 rfl
 refine Z10 (L' := [Zy,Zy,Zy,Zy,Zy,Zy,Zz,Zz,Zz,Zz,Zz,Zz,Zz,Zz,Zz]) 5 rfl ZK ZK ZK rfl rfl rfl rfl (H14.ok mem4) ?_
 refine Z10 (L' := [Zy,Zy,Zy,Zy,Zy,Zy,Zy,Zz,Zz,Zz,Zz,Zz,Zz,Zz,Zz]) 6 rfl ZK ZK ZK rfl rfl rfl rfl (H14.ok mem4) ?_
 refine Z10 (L' := [Zy,Zy,Zy,Zy,Zy,Zy,Zy,Zy,Zz,Zz,Zz,Zz,Zz,Zz,Zz]) 7 rfl ZK ZK ZK rfl rfl rfl rfl (H14.ok mem4) ?_
 refine Z10 (L' := [Zy,Zy,Zy,Zy,Zy,Zy,Zy,Zy,Zy,Zz,Zz,Zz,Zz,Zz,Zz]) 8 rfl ZK ZK ZK rfl rfl rfl rfl (H14.ok mem4) ?_
 refine Z10 (L' := [Zy,Zy,Zy,Zy,Zy,Zy,Zy,Zy,Zy,Zy,Zz,Zz,Zz,Zz,Zz]) 9 rfl ZK ZK ZK rfl rfl rfl rfl (H14.ok mem4) ?_
 refine Z10 (L' := [Zy,Zy,Zy,Zy,Zy,Zy,Zy,Zy,Zy,Zy,Zy,Zz,Zz,Zz,Zz]) 10 rfl ZK ZK ZK rfl rfl rfl rfl (H14.ok mem4) ?_
 refine Z10 (L' := [Zy,Zy,Zy,Zy,Zy,Zy,Zy,Zy,Zy,Zy,Zy,Zy,Zz,Zz,Zz]) 11 rfl ZK ZK ZK rfl rfl rfl rfl (H14.ok mem4) ?_
 refine Z10 (L' := [Zy,Zy,Zy,Zy,Zy,Zy,Zy,Zy,Zy,Zy,Zy,Zy,Zy,Zz,Zz]) 12 rfl ZK ZK ZK rfl rfl rfl rfl (H14.ok mem4) ?_
 refine Z10 (L' := [Zy,Zy,Zy,Zy,Zy,Zy,Zy,Zy,Zy,Zy,Zy,Zy,Zy,Zy,Zz]) 13 rfl ZK ZK ZK rfl rfl rfl rfl (H14.ok mem4) ?_
 apply Zu (L' := [Zy,Zy,Zy,Zy,Zy,Zy,Zy,Zy,Zy,Zy,Zy,Zy,Zy,Zy,Zy]) 14 (H14.ok mem4)
 ·intro wS sS
  refine Z0Z rfl rfl rfl rfl ?_
  refine Z0j (s := 36) (v' := .bool false) rfl (by first | rfl | (rw [hXZ]; simp)) ?_
  refine Z01 ?_
  exact Z04 rfl
 refine Z0B ZK ?_
 refine Z02 ?_
 refine Zk [0, 1, 5, 36] ?_
 refine Z0Q rfl rfl ?_
 refine Z0a (Z02 ?_)
 refine Zk [0, 1, 5] ?_
 refine Z03 (Z03 ?_)
 have H66 := H14.drewn
 refine Z1a (n := 16) [Zz,Zz,Zz,Zz,Zz,Zz,Zz,Zz,Zz,Zz,Zz,Zz,Zz,Zz,Zz,Zz] (fun wS => (As.blk b0_0 36 [.int .i64 d, .int .i64 n, pv, .int .i64 k]).ok wS) ZK rfl rfl ?_
 rcases Classical.em (¬ (bitw .and .i64 k 4 = 0)) with hsp5 | hsp5
 ·apply Zu (L' := [Zy,Zz,Zz,Zz,Zz,Zz,Zz,Zz,Zz,Zz,Zz,Zz,Zz,Zz,Zz,Zz]) 0 (H66.ok mem4)
  ·intro wS sS
   refine Z09 Z1K rfl rfl rfl (Z01 ?_)
   exact Z04 rfl
  apply Zu (L' := [Zy,Zy,Zz,Zz,Zz,Zz,Zz,Zz,Zz,Zz,Zz,Zz,Zz,Zz,Zz,Zz]) 1 (H66.ok mem4)
  ·intro wS sS
   refine Z05 (Z0r sS) mem0 rfl rfl underlying3 rfl rfl rfl ?_
   refine Z01 ?_
   exact Z04 rfl
  apply Zu (L' := [Zy,Zy,Zy,Zz,Zz,Zz,Zz,Zz,Zz,Zz,Zz,Zz,Zz,Zz,Zz,Zz]) 2 (H66.ok mem4)
  ·intro wS sS
   refine Z1i rfl rfl rfl rfl rfl (rfl) ?_
   refine Z01 ?_
   exact Z04 rfl
  apply Zu (L' := [Zy,Zy,Zy,Zy,Zz,Zz,Zz,Zz,Zz,Zz,Zz,Zz,Zz,Zz,Zz,Zz]) 3 (H66.ok mem4)
  ·intro wS sS
   refine Zo ?_
   refine Z01 ?_
   exact Z04 rfl
  apply Zu (L' := [Zy,Zy,Zy,Zy,Zy,Zz,Zz,Zz,Zz,Zz,Zz,Zz,Zz,Zz,Zz,Zz]) 4 (H66.ok mem4)
  ·intro wS sS
   refine Zm ?_
   refine Z0j (s := 41) (v' := .bool true) rfl (by exact congrArg Value.bool (decide_eq_true (by first | exact hsp5 | simpa using hsp5))) ?_
   refine Z01 ?_
   exact Z04 rfl
  apply Zu (L' := [Zy,Zy,Zy,Zy,Zy,Zy,Zz,Zz,Zz,Zz,Zz,Zz,Zz,Zz,Zz,Zz]) 5 (H66.ok mem4)
  ·intro wS sS
   refine Zm (Z01 ?_)
   exact Z04 rfl
  apply Zu (L' := [Zy,Zy,Zy,Zy,Zy,Zy,Zy,Zz,Zz,Zz,Zz,Zz,Zz,Zz,Zz,Zz]) 6 (H66.ok mem4)
  ·intro wS sS
   refine Z09 Z1x rfl rfl rfl (Z01 ?_)
   exact Z04 rfl
  apply Zu (L' := [Zy,Zy,Zy,Zy,Zy,Zy,Zy,Zy,Zz,Zz,Zz,Zz,Zz,Zz,Zz,Zz]) 7 (H66.ok mem4)
  ·intro wS sS
   refine Z05 (Z0r sS) mem0 rfl rfl underlying3 rfl rfl rfl ?_
   refine Z01 ?_
   exact Z04 rfl
  apply Zu (L' := [Zy,Zy,Zy,Zy,Zy,Zy,Zy,Zy,Zz,Zy,Zz,Zz,Zz,Zz,Zz,Zz]) 9 (H66.ok mem4)
  ·intro wS sS
   refine Zm (Z01 ?_)
   exact Z04 rfl
  apply Zu (L' := [Zy,Zy,Zy,Zy,Zy,Zy,Zy,Zy,Zz,Zy,Zy,Zz,Zz,Zz,Zz,Zz]) 10 (H66.ok mem4)
  ·intro wS sS
   refine Z09 Z1x rfl rfl rfl (Z01 ?_)
   exact Z04 rfl
  apply Zu (L' := [Zy,Zy,Zy,Zy,Zy,Zy,Zy,Zy,Zz,Zy,Zy,Zy,Zz,Zz,Zz,Zz]) 11 (H66.ok mem4)
  ·intro wS sS
   refine Z05 (Z0r sS) mem0 rfl rfl underlying3 rfl rfl rfl ?_
   refine Z01 ?_
   exact Z04 rfl
  refine Z0v (L' := [Zy,Zy,Zy,Zy,Zy,Zy,Zy,Zy,Zy,Zy,Zy,Zy,Zz,Zz,Zz,Zz]) 8 ZK rfl rfl ?_
  refine Zc func20 (ReadG gb X hwf n (w13.drew).drew (GF.of (σ := _) (b := gb) (X := X) H66)) ?_
  rintro ra w67 ⟨_, rfl, hG⟩
  have H67 := hG _ _ _ _ H66
  simp only [Zca, Zna] at H67
  refine Z01 ?_
  refine Z0n (H67.ok mem5) ?_
  refine Z0v (L' := [Zy,Zy,Zy,Zy,Zy,Zy,Zy,Zy,Zy,Zy,Zy,Zy,Zy,Zz,Zz,Zz]) 12 ZK rfl rfl ?_
  refine Z13 rfl rfl func21 rfl rfl (.cons rfl (.cons rfl .nil)) (ReadR rb Z hwz n _ (hZ _ (fun j hj hn => H67.ext.block j hj hn))) ?_
  refine Z01 ?_
  refine Z0n (H67.ok mem5) ?_
  refine Z0v (L' := [Zy,Zy,Zy,Zy,Zy,Zy,Zy,Zy,Zy,Zy,Zy,Zy,Zy,Zy,Zz,Zz]) 13 ZK rfl rfl ?_
  refine Z0I rfl rfl func19 rfl rfl (.cons rfl (.cons rfl .nil)) (widesL ra (readV Z n) lr ZO w67 (by rw [← hlr]; exact Own.ik (Z27 _ _) (H67.ok mem0)) (by rw [← hlr, ← hXZ]; exact Z4t (hZ _ (fun j hj hn => H67.ext.block j hj hn)) n)) ?_
  rintro _ w68 ⟨rfl, hG⟩
  have H68 := hG _ _ _ _ H67
  simp only [Zca, Zna] at H68
  refine Z01 ?_
  refine Z0n (H68.ok mem5) ?_
  apply Zu (L' := [Zy,Zy,Zy,Zy,Zy,Zy,Zy,Zy,Zy,Zy,Zy,Zy,Zy,Zy,Zy,Zz]) 14 (H68.ok mem5)
  ·intro wS sS
   first | refine Z38 rfl rfl rfl ?_ | refine Z3v rfl rfl rfl ?_
   refine Z01 ?_
   exact Z04 rfl
  apply Zu (L' := [Zy,Zy,Zy,Zy,Zy,Zy,Zy,Zy,Zy,Zy,Zy,Zy,Zy,Zy,Zy,Zy]) 15 (H68.ok mem5)
  ·intro wS sS
   refine Z1l rfl rfl rfl rfl ?_
   refine Z0j (s := 52) (v' := .bool false) rfl (by rfl) ?_
   refine Z01 ?_
   exact Z04 rfl
  refine Z0B ZK ?_
  refine Z02 ?_
  refine Zk [0, 1, 5, 52] ?_
  refine Z0Q rfl rfl ?_
  refine Z0a (Z02 ?_)
  refine Zk [0, 1, 5] ?_
  refine Z03 (Z03 (Z00 ?_))
  have H69 := St.frontL (l := [_, _, _, _]) H68
  simp only [Zca, Zna] at H69
  have H70 := St.frontL (l := [_, _, _, _]) H69
  simp only [Zca, Zna] at H70
  have H71 := St.frontL (l := [_, _, _, _]) H70
  simp only [Zca, Zna] at H71
  have H72 := St.frontL (l := [_, _, _, _]) H71
  simp only [Zca, Zna] at H72
  refine Z09 Z1K rfl rfl rfl ?_
  refine Z05 H72 mem5 rfl rfl underlying3 rfl rfl rfl ?_
  refine Z1i rfl rfl rfl rfl rfl (rfl) ?_
  refine Zo ?_
  refine Z01 (Z02 ?_)
  refine Zk [0, 1, 5, 56] ?_
  (first | refine Z0c rfl ?_ ?_ | refine Z08 rfl ?_ ?_) <;> intro hc3
  ·refine Z03 ?_
   have H73 := H72.drewn
   refine Z1a (n := 13) [Zz,Zz,Zz,Zz,Zz,Zz,Zz,Zz,Zz,Zz,Zz,Zz,Zz] (fun wS => (As.blk b0_0 36 [.int .i64 d, .int .i64 n, pv, .int .i64 k]).ok wS) ZK rfl rfl ?_
   apply Zu (L' := [Zy,Zz,Zz,Zz,Zz,Zz,Zz,Zz,Zz,Zz,Zz,Zz,Zz]) 0 (H73.ok mem5)
   ·intro wS sS
    refine Zm (Z01 ?_)
    exact Z04 rfl
   refine Z0N (L' := [Zy,Zy,Zz,Zz,Zz,Zz,Zz,Zz,Zz,Zz,Zz,Zz,Zz]) 1 rfl ZK ZK ZK rfl rfl rfl (H73.ok mem5) rfl ?_
   apply Zu (L' := [Zy,Zy,Zy,Zz,Zz,Zz,Zz,Zz,Zz,Zz,Zz,Zz,Zz]) 2 (H73.ok mem5)
   ·intro wS sS
    refine Z09 Z3z rfl rfl rfl (Z01 ?_)
    exact Z04 rfl
   apply Zu (L' := [Zy,Zy,Zy,Zy,Zz,Zz,Zz,Zz,Zz,Zz,Zz,Zz,Zz]) 3 (H73.ok mem5)
   ·intro wS sS
    refine Z09 Z1x rfl rfl rfl (Z01 ?_)
    exact Z04 rfl
   apply Zu (L' := [Zy,Zy,Zy,Zy,Zy,Zz,Zz,Zz,Zz,Zz,Zz,Zz,Zz]) 4 (H73.ok mem5)
   ·intro wS sS
    refine Z05 (Z0r sS) mem0 rfl rfl underlying3 rfl rfl rfl ?_
    refine Z01 ?_
    exact Z04 rfl
   refine Z0v (L' := [Zy,Zy,Zy,Zy,Zy,Zy,Zz,Zz,Zz,Zz,Zz,Zz,Zz]) 5 ZK rfl rfl ?_
   refine Z0I rfl rfl func38 rfl rfl (.cons rfl (.cons rfl .nil)) (TellsR rb Z hwz n w68.drew (hZ _ (fun j hj hn => H73.ext.block j hj hn))) ?_
   rintro _ w74 ⟨rfl, hG⟩
   have H74 := hG _ _ _ _ H73
   simp only [Zca, Zna] at H74
   refine Z01 ?_
   refine Z0n (H74.ok mem5) ?_
   apply Zu (L' := [Zy,Zy,Zy,Zy,Zy,Zy,Zy,Zz,Zz,Zz,Zz,Zz,Zz]) 6 (H74.ok mem5)
   ·intro wS sS
    refine Zm (Z01 ?_)
    exact Z04 rfl
   apply Zu (L' := [Zy,Zy,Zy,Zy,Zy,Zy,Zy,Zy,Zz,Zz,Zz,Zz,Zz]) 7 (H74.ok mem5)
   ·intro wS sS
    refine Zx (Z01 ?_)
    exact Z04 rfl
   apply Zu (L' := [Zy,Zy,Zy,Zy,Zy,Zy,Zy,Zy,Zy,Zz,Zz,Zz,Zz]) 8 (H74.ok mem5)
   ·intro wS sS
    refine Zx (Z01 ?_)
    exact Z04 rfl
   apply Zu (L' := [Zy,Zy,Zy,Zy,Zy,Zy,Zy,Zy,Zy,Zy,Zz,Zz,Zz]) 9 (H74.ok mem5)
   ·intro wS sS
    refine Zx (Z01 ?_)
    exact Z04 rfl
   apply Zu (L' := [Zy,Zy,Zy,Zy,Zy,Zy,Zy,Zy,Zy,Zy,Zy,Zz,Zz]) 10 (H74.ok mem5)
   ·intro wS sS
    refine Zg (Z01 ?_)
    exact Z04 rfl
   apply Zu (L' := [Zy,Zy,Zy,Zy,Zy,Zy,Zy,Zy,Zy,Zy,Zy,Zy,Zz]) 11 (H74.ok mem5)
   ·intro wS sS
    refine Zg (Z01 ?_)
    exact Z04 rfl
   apply Zu (L' := [Zy,Zy,Zy,Zy,Zy,Zy,Zy,Zy,Zy,Zy,Zy,Zy,Zy]) 12 (H74.ok mem5)
   ·intro wS sS
    refine Zg (Z01 ?_)
    exact Z04 rfl
   refine Z0B ZK ?_
   refine Z02 ?_
   refine Zk [0, 1, 5, 7, 8, 9] ?_
   refine Z03 (Z00 (Zm (Z09 Z1x rfl rfl rfl ?_)))
   refine Z05 H74 mem5 rfl rfl underlying3 rfl rfl rfl ?_
   refine Zp func31 (BuiltG gb X hwf.sgX n w74 (GF.of (σ := _) (b := gb) (X := X) H74)) ?_
   refine Zm ?_
   refine Zo ?_
   refine Z0j (s := 72) (v' := .bool false) rfl (by rw [hXZ]; simp) ?_
   refine Zm ?_
   refine Zm (Z09 Z1x rfl rfl rfl ?_)
   refine Z05 H74 mem5 rfl rfl underlying3 rfl rfl rfl ?_
   refine Zp func39 (LaidG gb X hwf n w74 (GF.of (σ := _) (b := gb) (X := X) H74)) ?_
   refine Zm ?_
   refine Zo ?_
   refine Z0j (s := 79) (v' := .bool false) rfl (by rw [hXZ]; simp) ?_
   refine Z0Z rfl rfl rfl rfl ?_
   refine Zm ?_
   refine Zm (Z09 Z1x rfl rfl rfl ?_)
   refine Z05 H74 mem5 rfl rfl underlying3 rfl rfl rfl ?_
   refine Zp func40 (Z3o gb X hwf.sgX n w74 (GF.of (σ := _) (b := gb) (X := X) H74)) ?_
   refine Zm ?_
   refine Z4o underlying4 rfl rfl rfl rfl ?_
   refine Z0j (s := 87) (v' := .bool false) rfl (by rw [hXZ]; simp) ?_
   refine Z0Z rfl rfl rfl rfl ?_
   refine Z01 (Z02 ?_)
   refine Zk [0, 1, 5, 88] ?_
   refine Z0Q rfl rfl ?_
   refine Z0a (Z02 ?_)
   refine Zk [0, 1, 5] ?_
   refine Z03 (Z00 (Z09 Z1K rfl rfl rfl ?_))
   refine Z05 H74 mem5 rfl rfl underlying3 rfl rfl rfl ?_
   refine Z1i rfl rfl rfl rfl rfl (rfl) ?_
   refine Ze ?_
   refine Zm ?_
   apply l_orS H74 5 [] rfl rfl (.cons rfl .nil) rfl rfl (fun _ => rfl) rfl rfl rfl
   ·intro hg11_5
    refine Zm ?_
    refine Zc func25 (Z4h gb X hwf w74 (GF.of (σ := _) (b := gb) (X := X) H74)) ?_
    rintro _ w75 ⟨rfl, hG⟩
    have H75 := hG _ _ _ _ H74
    simp only [Zca, Zna] at H75
    refine Zm ?_
    refine Z0I rfl rfl func26 rfl rfl (.cons rfl .nil) (Z4s rb Z hwz w75 (hZ _ (fun j hj hn => H75.ext.block j hj hn))) ?_
    rintro _ w76 ⟨rfl, hG⟩
    have H76 := hG _ _ _ _ H75
    simp only [Zca, Zna] at H76
    refine Z3t underlying4 rfl rfl rfl rfl ?_
    refine Z01 ?_
    exact Z1P H76 rfl (.cons rfl (ZF hg11_5) .nil)
    all_goals infer_instance
   intro w77 H77
   refine Zg (Z01 (Z02 ?_))
   refine Zk [6] ?_
   refine Z0i ?_
   refine Z0e results16 rfl ?_
   refine ⟨_, rfl, ?_⟩
   have H83 := St.del (.tail (.tail (.tail (.tail .head)))) (St.del (.tail (.tail (.tail (.tail (.tail .head))))) (St.front3 (St.front3 (St.front3 (St.front3 H77)))))
   exact ⟨congrArg Value.bool (decide_eq_true (.inr (by rw [hXZ]))), H83.transS⟩
  refine Z0a (Z02 ?_)
  refine Zk [0, 1, 5] ?_
  refine Z03 (Z00 (Z09 Z1K rfl rfl rfl ?_))
  refine Z05 H72 mem5 rfl rfl underlying3 rfl rfl rfl ?_
  refine Z1i rfl rfl rfl rfl rfl (rfl) ?_
  refine Ze ?_
  refine Zm ?_
  apply l_orS H72 5 [] rfl rfl (.cons rfl .nil) rfl rfl (fun _ => rfl) rfl rfl rfl
  ·intro hg11_5
   refine Zm ?_
   refine Zc func25 (Z4h gb X hwf w68 (GF.of (σ := _) (b := gb) (X := X) H72)) ?_
   rintro _ w84 ⟨rfl, hG⟩
   have H84 := hG _ _ _ _ H72
   simp only [Zca, Zna] at H84
   refine Zm ?_
   refine Z0I rfl rfl func26 rfl rfl (.cons rfl .nil) (Z4s rb Z hwz w84 (hZ _ (fun j hj hn => H84.ext.block j hj hn))) ?_
   rintro _ w85 ⟨rfl, hG⟩
   have H85 := hG _ _ _ _ H84
   simp only [Zca, Zna] at H85
   refine Z3t underlying4 rfl rfl rfl rfl ?_
   refine Z01 ?_
   exact Z1P H85 rfl (.cons rfl (ZF hg11_5) .nil)
   all_goals infer_instance
  intro w86 H86
  refine Zg (Z01 (Z02 ?_))
  refine Zk [6] ?_
  refine Z0i ?_
  refine Z0e results16 rfl ?_
  refine ⟨_, rfl, ?_⟩
  have H92 := St.del (.tail (.tail (.tail (.tail .head)))) (St.del (.tail (.tail (.tail (.tail (.tail .head))))) (St.front3 (St.front3 (St.front3 (St.front3 H86)))))
  exact ⟨congrArg Value.bool (decide_eq_true (.inr (by rw [hXZ]))), H92.transS⟩
 apply Zu (L' := [Zy,Zz,Zz,Zz,Zz,Zz,Zz,Zz,Zz,Zz,Zz,Zz,Zz,Zz,Zz,Zz]) 0 (H66.ok mem4)
 ·intro wS sS
  refine Z09 Z1K rfl rfl rfl (Z01 ?_)
  exact Z04 rfl
 apply Zu (L' := [Zy,Zy,Zz,Zz,Zz,Zz,Zz,Zz,Zz,Zz,Zz,Zz,Zz,Zz,Zz,Zz]) 1 (H66.ok mem4)
 ·intro wS sS
  refine Z05 (Z0r sS) mem0 rfl rfl underlying3 rfl rfl rfl ?_
  refine Z01 ?_
  exact Z04 rfl
 apply Zu (L' := [Zy,Zy,Zy,Zz,Zz,Zz,Zz,Zz,Zz,Zz,Zz,Zz,Zz,Zz,Zz,Zz]) 2 (H66.ok mem4)
 ·intro wS sS
  refine Z1i rfl rfl rfl rfl rfl (rfl) ?_
  refine Z01 ?_
  exact Z04 rfl
 apply Zu (L' := [Zy,Zy,Zy,Zy,Zz,Zz,Zz,Zz,Zz,Zz,Zz,Zz,Zz,Zz,Zz,Zz]) 3 (H66.ok mem4)
 ·intro wS sS
  refine Zo ?_
  refine Z01 ?_
  exact Z04 rfl
 apply Zu (L' := [Zy,Zy,Zy,Zy,Zy,Zz,Zz,Zz,Zz,Zz,Zz,Zz,Zz,Zz,Zz,Zz]) 4 (H66.ok mem4)
 ·intro wS sS
  refine Zm ?_
  refine Z0j (s := 41) (v' := .bool false) rfl (by exact congrArg Value.bool (decide_eq_false (by first | exact hsp5 | simpa using hsp5))) ?_
  refine Z01 ?_
  exact Z04 rfl
 refine Z10 (L' := [Zy,Zy,Zy,Zy,Zy,Zy,Zz,Zz,Zz,Zz,Zz,Zz,Zz,Zz,Zz,Zz]) 5 rfl ZK ZK ZK rfl rfl rfl rfl (H66.ok mem4) ?_
 refine Z10 (L' := [Zy,Zy,Zy,Zy,Zy,Zy,Zy,Zz,Zz,Zz,Zz,Zz,Zz,Zz,Zz,Zz]) 6 rfl ZK ZK ZK rfl rfl rfl rfl (H66.ok mem4) ?_
 refine Z10 (L' := [Zy,Zy,Zy,Zy,Zy,Zy,Zy,Zy,Zz,Zz,Zz,Zz,Zz,Zz,Zz,Zz]) 7 rfl ZK ZK ZK rfl rfl rfl rfl (H66.ok mem4) ?_
 refine Z10 (L' := [Zy,Zy,Zy,Zy,Zy,Zy,Zy,Zy,Zy,Zz,Zz,Zz,Zz,Zz,Zz,Zz]) 8 rfl ZK ZK ZK rfl rfl rfl rfl (H66.ok mem4) ?_
 refine Z10 (L' := [Zy,Zy,Zy,Zy,Zy,Zy,Zy,Zy,Zy,Zy,Zz,Zz,Zz,Zz,Zz,Zz]) 9 rfl ZK ZK ZK rfl rfl rfl rfl (H66.ok mem4) ?_
 refine Z10 (L' := [Zy,Zy,Zy,Zy,Zy,Zy,Zy,Zy,Zy,Zy,Zy,Zz,Zz,Zz,Zz,Zz]) 10 rfl ZK ZK ZK rfl rfl rfl rfl (H66.ok mem4) ?_
 refine Z10 (L' := [Zy,Zy,Zy,Zy,Zy,Zy,Zy,Zy,Zy,Zy,Zy,Zy,Zz,Zz,Zz,Zz]) 11 rfl ZK ZK ZK rfl rfl rfl rfl (H66.ok mem4) ?_
 refine Z10 (L' := [Zy,Zy,Zy,Zy,Zy,Zy,Zy,Zy,Zy,Zy,Zy,Zy,Zy,Zz,Zz,Zz]) 12 rfl ZK ZK ZK rfl rfl rfl rfl (H66.ok mem4) ?_
 refine Z10 (L' := [Zy,Zy,Zy,Zy,Zy,Zy,Zy,Zy,Zy,Zy,Zy,Zy,Zy,Zy,Zz,Zz]) 13 rfl ZK ZK ZK rfl rfl rfl rfl (H66.ok mem4) ?_
 refine Z10 (L' := [Zy,Zy,Zy,Zy,Zy,Zy,Zy,Zy,Zy,Zy,Zy,Zy,Zy,Zy,Zy,Zz]) 14 rfl ZK ZK ZK rfl rfl rfl rfl (H66.ok mem4) ?_
 apply Zu (L' := [Zy,Zy,Zy,Zy,Zy,Zy,Zy,Zy,Zy,Zy,Zy,Zy,Zy,Zy,Zy,Zy]) 15 (H66.ok mem4)
 ·intro wS sS
  refine Z0Z rfl rfl rfl rfl ?_
  refine Z0j (s := 52) (v' := .bool false) rfl (by rfl) ?_
  refine Z01 ?_
  exact Z04 rfl
 refine Z0B ZK ?_
 refine Z02 ?_
 refine Zk [0, 1, 5, 52] ?_
 refine Z0Q rfl rfl ?_
 refine Z0a (Z02 ?_)
 refine Zk [0, 1, 5] ?_
 refine Z03 (Z03 (Z00 ?_))
 have H93 := St.frontL (l := [_, _, _]) H66
 simp only [Zca, Zna] at H93
 have H94 := St.frontL (l := [_, _, _]) H93
 simp only [Zca, Zna] at H94
 have H95 := St.frontL (l := [_, _, _]) H94
 simp only [Zca, Zna] at H95
 have H96 := St.frontL (l := [_, _, _]) H95
 simp only [Zca, Zna] at H96
 refine Z09 Z1K rfl rfl rfl ?_
 refine Z05 H96 mem4 rfl rfl underlying3 rfl rfl rfl ?_
 refine Z1i rfl rfl rfl rfl rfl (rfl) ?_
 refine Zo ?_
 refine Z01 (Z02 ?_)
 refine Zk [0, 1, 5, 56] ?_
 (first | refine Z0c rfl ?_ ?_ | refine Z08 rfl ?_ ?_) <;> intro hc3
 ·refine Z03 ?_
  have H97 := H96.drewn
  refine Z1a (n := 13) [Zz,Zz,Zz,Zz,Zz,Zz,Zz,Zz,Zz,Zz,Zz,Zz,Zz] (fun wS => (As.blk b0_0 36 [.int .i64 d, .int .i64 n, pv, .int .i64 k]).ok wS) ZK rfl rfl ?_
  apply Zu (L' := [Zy,Zz,Zz,Zz,Zz,Zz,Zz,Zz,Zz,Zz,Zz,Zz,Zz]) 0 (H97.ok mem4)
  ·intro wS sS
   refine Zm (Z01 ?_)
   exact Z04 rfl
  refine Z0N (L' := [Zy,Zy,Zz,Zz,Zz,Zz,Zz,Zz,Zz,Zz,Zz,Zz,Zz]) 1 rfl ZK ZK ZK rfl rfl rfl (H97.ok mem4) rfl ?_
  apply Zu (L' := [Zy,Zy,Zy,Zz,Zz,Zz,Zz,Zz,Zz,Zz,Zz,Zz,Zz]) 2 (H97.ok mem4)
  ·intro wS sS
   refine Z09 Z3z rfl rfl rfl (Z01 ?_)
   exact Z04 rfl
  apply Zu (L' := [Zy,Zy,Zy,Zy,Zz,Zz,Zz,Zz,Zz,Zz,Zz,Zz,Zz]) 3 (H97.ok mem4)
  ·intro wS sS
   refine Z09 Z1x rfl rfl rfl (Z01 ?_)
   exact Z04 rfl
  apply Zu (L' := [Zy,Zy,Zy,Zy,Zy,Zz,Zz,Zz,Zz,Zz,Zz,Zz,Zz]) 4 (H97.ok mem4)
  ·intro wS sS
   refine Z05 (Z0r sS) mem0 rfl rfl underlying3 rfl rfl rfl ?_
   refine Z01 ?_
   exact Z04 rfl
  refine Z0v (L' := [Zy,Zy,Zy,Zy,Zy,Zy,Zz,Zz,Zz,Zz,Zz,Zz,Zz]) 5 ZK rfl rfl ?_
  refine Z0I rfl rfl func38 rfl rfl (.cons rfl (.cons rfl .nil)) (TellsR rb Z hwz n ((w13.drew).drew).drew (hZ _ (fun j hj hn => H97.ext.block j hj hn))) ?_
  rintro _ w98 ⟨rfl, hG⟩
  have H98 := hG _ _ _ _ H97
  simp only [Zca, Zna] at H98
  refine Z01 ?_
  refine Z0n (H98.ok mem4) ?_
  apply Zu (L' := [Zy,Zy,Zy,Zy,Zy,Zy,Zy,Zz,Zz,Zz,Zz,Zz,Zz]) 6 (H98.ok mem4)
  ·intro wS sS
   refine Zm (Z01 ?_)
   exact Z04 rfl
  apply Zu (L' := [Zy,Zy,Zy,Zy,Zy,Zy,Zy,Zy,Zz,Zz,Zz,Zz,Zz]) 7 (H98.ok mem4)
  ·intro wS sS
   refine Zx (Z01 ?_)
   exact Z04 rfl
  apply Zu (L' := [Zy,Zy,Zy,Zy,Zy,Zy,Zy,Zy,Zy,Zz,Zz,Zz,Zz]) 8 (H98.ok mem4)
  ·intro wS sS
   refine Zx (Z01 ?_)
   exact Z04 rfl
  apply Zu (L' := [Zy,Zy,Zy,Zy,Zy,Zy,Zy,Zy,Zy,Zy,Zz,Zz,Zz]) 9 (H98.ok mem4)
  ·intro wS sS
   refine Zx (Z01 ?_)
   exact Z04 rfl
  apply Zu (L' := [Zy,Zy,Zy,Zy,Zy,Zy,Zy,Zy,Zy,Zy,Zy,Zz,Zz]) 10 (H98.ok mem4)
  ·intro wS sS
   refine Zg (Z01 ?_)
   exact Z04 rfl
  apply Zu (L' := [Zy,Zy,Zy,Zy,Zy,Zy,Zy,Zy,Zy,Zy,Zy,Zy,Zz]) 11 (H98.ok mem4)
  ·intro wS sS
   refine Zg (Z01 ?_)
   exact Z04 rfl
  apply Zu (L' := [Zy,Zy,Zy,Zy,Zy,Zy,Zy,Zy,Zy,Zy,Zy,Zy,Zy]) 12 (H98.ok mem4)
  ·intro wS sS
   refine Zg (Z01 ?_)
   exact Z04 rfl
  refine Z0B ZK ?_
  refine Z02 ?_
  refine Zk [0, 1, 5, 7, 8, 9] ?_
  refine Z03 (Z00 (Zm (Z09 Z1x rfl rfl rfl ?_)))
  refine Z05 H98 mem4 rfl rfl underlying3 rfl rfl rfl ?_
  refine Zp func31 (BuiltG gb X hwf.sgX n w98 (GF.of (σ := _) (b := gb) (X := X) H98)) ?_
  refine Zm ?_
  refine Zo ?_
  refine Z0j (s := 72) (v' := .bool false) rfl (by rw [hXZ]; simp) ?_
  refine Zm ?_
  refine Zm (Z09 Z1x rfl rfl rfl ?_)
  refine Z05 H98 mem4 rfl rfl underlying3 rfl rfl rfl ?_
  refine Zp func39 (LaidG gb X hwf n w98 (GF.of (σ := _) (b := gb) (X := X) H98)) ?_
  refine Zm ?_
  refine Zo ?_
  refine Z0j (s := 79) (v' := .bool false) rfl (by rw [hXZ]; simp) ?_
  refine Z0Z rfl rfl rfl rfl ?_
  refine Zm ?_
  refine Zm (Z09 Z1x rfl rfl rfl ?_)
  refine Z05 H98 mem4 rfl rfl underlying3 rfl rfl rfl ?_
  refine Zp func40 (Z3o gb X hwf.sgX n w98 (GF.of (σ := _) (b := gb) (X := X) H98)) ?_
  refine Zm ?_
  refine Z4o underlying4 rfl rfl rfl rfl ?_
  refine Z0j (s := 87) (v' := .bool false) rfl (by rw [hXZ]; simp) ?_
  refine Z0Z rfl rfl rfl rfl ?_
  refine Z01 (Z02 ?_)
  refine Zk [0, 1, 5, 88] ?_
  refine Z0Q rfl rfl ?_
  refine Z0a (Z02 ?_)
  refine Zk [0, 1, 5] ?_
  refine Z03 (Z00 (Z09 Z1K rfl rfl rfl ?_))
  refine Z05 H98 mem4 rfl rfl underlying3 rfl rfl rfl ?_
  refine Z1i rfl rfl rfl rfl rfl (rfl) ?_
  refine Ze ?_
  refine Zm ?_
  apply l_orS H98 5 [] rfl rfl (.cons rfl .nil) rfl rfl (fun _ => rfl) rfl rfl rfl
  ·intro hg11_5
   refine Zm ?_
   refine Zc func25 (Z4h gb X hwf w98 (GF.of (σ := _) (b := gb) (X := X) H98)) ?_
   rintro _ w99 ⟨rfl, hG⟩
   have H99 := hG _ _ _ _ H98
   simp only [Zca, Zna] at H99
   refine Zm ?_
   refine Z0I rfl rfl func26 rfl rfl (.cons rfl .nil) (Z4s rb Z hwz w99 (hZ _ (fun j hj hn => H99.ext.block j hj hn))) ?_
   rintro _ w100 ⟨rfl, hG⟩
   have H100 := hG _ _ _ _ H99
   simp only [Zca, Zna] at H100
   refine Z3t underlying4 rfl rfl rfl rfl ?_
   refine Z01 ?_
   exact Z1P H100 rfl (.cons rfl (ZF hg11_5) .nil)
   all_goals infer_instance
  intro w101 H101
  refine Zg (Z01 (Z02 ?_))
  refine Zk [6] ?_
  refine Z0i ?_
  refine Z0e results16 rfl ?_
  refine ⟨_, rfl, ?_⟩
  have H106 := St.del (.tail (.tail (.tail (.tail .head)))) (St.front3 (St.front3 (St.front3 (St.front3 H101))))
  exact ⟨congrArg Value.bool (decide_eq_true (.inr (by rw [hXZ]))), H106.transS⟩
 refine Z0a (Z02 ?_)
 refine Zk [0, 1, 5] ?_
 refine Z03 (Z00 (Z09 Z1K rfl rfl rfl ?_))
 refine Z05 H96 mem4 rfl rfl underlying3 rfl rfl rfl ?_
 refine Z1i rfl rfl rfl rfl rfl (rfl) ?_
 refine Ze ?_
 refine Zm ?_
 apply l_orS H96 5 [] rfl rfl (.cons rfl .nil) rfl rfl (fun _ => rfl) rfl rfl rfl
 ·intro hg11_5
  refine Zm ?_
  refine Zc func25 (Z4h gb X hwf (w13.drew).drew (GF.of (σ := _) (b := gb) (X := X) H96)) ?_
  rintro _ w107 ⟨rfl, hG⟩
  have H107 := hG _ _ _ _ H96
  simp only [Zca, Zna] at H107
  refine Zm ?_
  refine Z0I rfl rfl func26 rfl rfl (.cons rfl .nil) (Z4s rb Z hwz w107 (hZ _ (fun j hj hn => H107.ext.block j hj hn))) ?_
  rintro _ w108 ⟨rfl, hG⟩
  have H108 := hG _ _ _ _ H107
  simp only [Zca, Zna] at H108
  refine Z3t underlying4 rfl rfl rfl rfl ?_
  refine Z01 ?_
  exact Z1P H108 rfl (.cons rfl (ZF hg11_5) .nil)
  all_goals infer_instance
 intro w109 H109
 refine Zg (Z01 (Z02 ?_))
 refine Zk [6] ?_
 refine Z0i ?_
 refine Z0e results16 rfl ?_
 refine ⟨_, rfl, ?_⟩
 have H114 := St.del (.tail (.tail (.tail (.tail .head)))) (St.front3 (St.front3 (St.front3 (St.front3 H109))))
 exact ⟨congrArg Value.bool (decide_eq_true (.inr (by rw [hXZ]))), H114.transS⟩
end Go.Proofs.YtgfkagaacdblbaaGreat.W
