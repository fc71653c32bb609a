/- walks of column.Fits and cell.Write of scaled numbers; the law's kinds, wakes -/
import Derived.Test.YtgjgahmhoflgcaaGreatDoorTi
set_option linter.unusedVariables false
set_option linter.unusedSimpArgs false
set_option maxRecDepth 10000
namespace Go.Proofs.YtgjgahmhoflgcaaGreatDoor.W
open Go.Vc Go.RowKit Tryz
theorem scaWr (s : Nat) (hs : s ≤ 18) (b : Int) (hb : u64I b) (hok : szV b ≤ 999999999999999999) (w : World) :
  Z0f P 84 [.agg #[.int .i64 12, .int .i64 (s : Int)], .int .u64 b] w fun r w' => ∃ v, r = .tuple #[v, .int .i64 0] ∧ Grow w w' [As.rb 5 v (scT b s)] := by
 refine Z0o func84 rfl ntmps84 rfl ?_
 have H0 := St.start w
 refine Z03 (Z00 ?_)
 refine Z57 H0 rfl rfl rfl (fun b0_0 w1 H1 => ?_)
 refine Zg (Zg (Z01 (Z02 ?_)))
 refine Zk [1, 2] ?_
 refine Z03 (Z00 (Z09 fo23_1 rfl rfl rfl ?_))
 refine Z05 H1 mem0 rfl rfl underlying3 rfl rfl rfl ?_
 refine Zm ?_
 refine Zc func85 (printSc s hs b hb hok w1) ?_
 rintro _ w2 ⟨v, rfl, hG⟩
 have H2 := hG _ _ _ _ H1
 simp only [Zca, Zna] at H2
 refine Zx (Zx (Zg (Zg (Z01 (Z02 ?_)))))
 refine Zk [4, 5] ?_
 refine Z0i ?_
 refine Z0P results84 rfl rfl ?_
 refine ⟨_, rfl, ?_⟩
 have H3 := St.del (.tail .head) H2
 exact ⟨_, rfl, H3.grows⟩
theorem fitsD (s : Nat) (hs : s ≤ 18) (b : Int) (hb : u64I b) (w : World) :
  Z0f P 23 [.agg #[.int .i64 12, .int .i64 (s : Int)], .int .u64 b] w fun r w' => r = .bool (decide (szV b ≤ 999999999999999999)) ∧ Grow w w' [] := by
 refine Z0o func23 rfl ntmps23 rfl ?_
 have H0 := St.start w
 refine Z03 (Z00 ?_)
 refine Z57 H0 rfl rfl rfl (fun b0_0 w1 H1 => ?_)
 refine Zg (Z01 (Z02 ?_))
 refine Zk [1, 2] ?_
 refine Z03 (Z03 (Z00 ?_))
 refine Z1b H1 mem0 rfl rfl underlying23 rfl tz23 rfl (.take (.take .nil)) ?_
 refine Zc func32 (checkT 12 (s : Int) w1) ?_
 rintro _ w2 ⟨rfl, hG⟩
 have H2 := hG _ _ _ _ H1
 simp only [Zca, Zna] at H2
 refine Zo ?_
 refine Z01 (Z02 ?_)
 refine Zk [1, 2, 12] ?_
 (first | refine Z0c rfl ?_ ?_ | refine Z08 rfl ?_ ?_) <;> intro hc0
 ·exact absurd (if_pos (show okT 12 (s : Int) by unfold okT; simp; omega)) hc0
 refine Z0a (Z02 ?_)
 refine Zk [1, 2] ?_
 refine Z03 (Z00 (Zg (Z01 (Z02 ?_))))
 refine Zk [1, 2] ?_
 refine Z03 (Z03 (Z00 (Z09 Z5p rfl rfl rfl ?_)))
 refine Z05 H2 mem0 rfl rfl underlying3 rfl rfl rfl ?_
 refine Z01 (Z02 ?_)
 refine Zk [1, 2, 14] ?_
 refine Z0d (Z03 (Z03 (Z00 ?_)))
 refine Ze ?_
 refine Zg (Z01 (Z02 ?_))
 refine Zk [1, 2, 14, 19] ?_
 (first | refine Z0c rfl ?_ ?_ | refine Z08 rfl ?_ ?_) <;> intro hc1
 ·exact absurd hc1 (by decide)
 refine Z00 ?_
 refine Ze ?_
 refine Zg (Z01 (Z02 ?_))
 refine Zk [1, 2, 14, 19] ?_
 (first | refine Z0c rfl ?_ ?_ | refine Z08 rfl ?_ ?_) <;> intro hc2
 ·exact absurd hc2 (by decide)
 refine Z03 (Z03 (Z00 ?_))
 refine Ze ?_
 refine Zg (Z01 (Z02 ?_))
 refine Zk [1, 2, 14, 22] ?_
 (first | refine Z0c rfl ?_ ?_ | refine Z08 rfl ?_ ?_) <;> intro hc3
 ·exact absurd hc3 (by decide)
 refine Z00 ?_
 refine Ze ?_
 refine Zg (Z01 (Z02 ?_))
 refine Zk [1, 2, 14, 22] ?_
 (first | refine Z0c rfl ?_ ?_ | refine Z08 rfl ?_ ?_) <;> intro hc4
 ·exact absurd hc4 (by decide)
 refine Z03 (Z00 ?_)
 refine Ze ?_
 refine Zg (Z01 (Z02 ?_))
 refine Zk [1, 2, 14, 49] ?_
 (first | refine Z0c rfl ?_ ?_ | refine Z08 rfl ?_ ?_) <;> intro hc5
 ·exact absurd hc5 (by decide)
 refine Z03 (Z00 ?_)
 refine Ze ?_
 refine Zg (Z01 (Z02 ?_))
 refine Zk [1, 2, 14, 53] ?_
 (first | refine Z0c rfl ?_ ?_ | refine Z08 rfl ?_ ?_) <;> intro hc6
 ·refine Z00 (Zm (Zm ?_))
  refine Zc func49 (cmpSc b hb w2) ?_
  rintro _ _ ⟨x, rfl, rfl⟩
  refine Zm ?_
  refine Zx (Zx (Zg (Z01 ?_)))
  refine Z0F ?_
  refine Z02 ?_
  refine Zk [5] ?_
  refine Z03 (Z00 (Zm ?_))
  refine Ze ?_
  refine Zg (Z01 (Z02 ?_))
  refine Zk [4] ?_
  refine Z0i ?_
  refine Z0e results23 rfl ?_
  refine ⟨_, rfl, ?_⟩
  have H3 := St.del .head H2
  exact ⟨congrArg Value.bool (decide_eq_decide.2 (by split <;> omega)), H3.grows⟩
 exact absurd rfl hc6
theorem writeD (s : Nat) (hs : s ≤ 18) (b : Int) (hb : u64I b) (hok : szV b ≤ 999999999999999999) (w : World) : VCallX P (wrV 12) [.agg #[.int .i64 12, .int .i64 (s : Int)], .int .u64 b] w fun r w' => ∃ v, r = .tuple #[v, .int .i64 0] ∧ Grow w w' [As.rb 5 v (scT b s)] := ⟨_, _, _, [], rfl, func84, rfl, rfl, scaWr s hs b hb hok w⟩
theorem WriteD (s : Nat) (hs : s ≤ 18) (b : Int) (hb : u64I b) (hok : szV b ≤ 999999999999999999) (v : Value) (w : World) :
  Z0f P 12 [.agg #[.int .i64 12, .int .i64 (s : Int)], .int .u64 b, v] w fun r w' => ∃ v', r = .tuple #[v', .int .i64 0] ∧ Grow w w' [As.rb 5 v' (scT b s)] := by
 refine Z0o func12 rfl ntmps12 rfl ?_
 have H0 := St.start w
 refine Z03 (Z00 ?_)
 refine Z57 H0 rfl rfl rfl (fun b0_0 w1 H1 => ?_)
 refine Zg (Zg (Z01 (Z02 ?_)))
 refine Zk [1, 2, 3] ?_
 refine Z03 (Z0d (Z03 (Z00 ?_)))
 refine Z1b H1 mem0 rfl rfl underlying23 rfl tz23 rfl (.take (.take .nil)) ?_
 refine Zc func32 (checkT 12 (s : Int) w1) ?_
 rintro _ w2 ⟨rfl, hG⟩
 have H2 := hG _ _ _ _ H1
 simp only [Zca, Zna] at H2
 refine Zo ?_
 refine Zg (Z01 (Z02 ?_))
 refine Zk [1, 2, 3, 8] ?_
 (first | refine Z0c rfl ?_ ?_ | refine Z08 rfl ?_ ?_) <;> intro hc0
 ·exact absurd (if_pos (show okT 12 (s : Int) by unfold okT; simp; omega)) hc0
 refine Z03 (Z00 ?_)
 refine Z1b H2 mem0 rfl rfl underlying23 rfl tz23 rfl (.take (.take .nil)) ?_
 refine Zc func33 (textsC 12 (s : Int) w2) ?_
 rintro _ w3 ⟨rfl, hG⟩
 have H3 := hG _ _ _ _ H2
 simp only [Zca, Zna] at H3
 refine Zg (Z01 (Z02 ?_))
 refine Zk [1, 2, 3, 12] ?_
 (first | refine Z0c rfl ?_ ?_ | refine Z08 rfl ?_ ?_) <;> intro hc1
 ·exact absurd hc1 (by decide)
 refine Z03 (Z00 ?_)
 refine Z1b H3 mem0 rfl rfl underlying23 rfl tz23 rfl (.take (.take .nil)) ?_
 refine Zm ?_
 refine Zc func23 (fitsD s hs b hb w3) ?_
 rintro _ w4 ⟨rfl, hG⟩
 have H4 := hG _ _ _ _ H3
 simp only [Zca, Zna] at H4
 first | refine Z38 rfl rfl rfl ?_ | refine Z3v rfl rfl rfl ?_
 refine Zg (Z01 (Z02 ?_))
 refine Zk [1, 3, 17] ?_
 (first | refine Z0c rfl ?_ ?_ | refine Z08 rfl ?_ ?_) <;> intro hc2
 ·exact absurd hok hc2
 refine Z0a ?_
 refine Z0F ?_
 refine Z02 ?_
 refine Zk [1, 3] ?_
 refine Z03 ?_
 have H5 := H4.drewn
 refine Z1a (n := 12) [Zz,Zz,Zz,Zz,Zz,Zz,Zz,Zz,Zz,Zz,Zz,Zz] (fun wS => (As.blk b0_0 23 [.int .i64 12, .int .i64 (s : Int)]).ok wS) ZK rfl rfl ?_
 apply Zu (L' := [Zz,Zy,Zz,Zz,Zz,Zz,Zz,Zz,Zz,Zz,Zz,Zz]) 1 (H5.ok mem0)
 ·intro wS sS
  refine Z09 Z5p rfl rfl rfl (Z01 ?_)
  exact Z04 rfl
 apply Zu (L' := [Zz,Zy,Zy,Zz,Zz,Zz,Zz,Zz,Zz,Zz,Zz,Zz]) 2 (H5.ok mem0)
 ·intro wS sS
  refine Z05 (Z0r sS) mem0 rfl rfl underlying3 rfl rfl rfl ?_
  refine Z01 ?_
  exact Z04 rfl
 apply Zu (L' := [Zz,Zy,Zy,Zz,Zz,Zy,Zz,Zz,Zz,Zz,Zz,Zz]) 5 (H5.ok mem0)
 ·intro wS sS
  refine Z1b (Z0r sS) mem0 rfl rfl underlying23 rfl tz23 rfl (.take (.take .nil)) ?_
  refine Z01 ?_
  exact Z04 rfl
 apply Zu (L' := [Zz,Zy,Zy,Zz,Zz,Zy,Zy,Zz,Zz,Zz,Zz,Zz]) 6 (H5.ok mem0)
 ·intro wS sS
  refine Zm (Z01 ?_)
  exact Z04 rfl
 refine Z0v (L' := [Zy,Zy,Zy,Zz,Zz,Zy,Zy,Zz,Zz,Zz,Zz,Zz]) 0 ZK rfl rfl ?_
 refine Zc func35 (kindsC w4.drew) ?_
 rintro _ w6 ⟨p13, p14, rfl, hG⟩
 have H6 := hG _ _ _ _ H5
 simp only [Zca, Zna] at H6
 refine Z01 ?_
 refine Z0n (H6.ok mem2) ?_
 apply Zu (L' := [Zy,Zy,Zy,Zy,Zz,Zy,Zy,Zz,Zz,Zz,Zz,Zz]) 3 (H6.ok mem2)
 ·intro wS sS
  refine l_elemA (j := 12) (vs := [rdV p13 p14 12, wrV 12]) rfl rfl underlying78 underlying77 tz77 rfl rfl ZO ZO (rfl) ?_
  refine Z01 ?_
  exact Z04 rfl
 refine Z0v (L' := [Zy,Zy,Zy,Zy,Zy,Zy,Zy,Zz,Zz,Zz,Zz,Zz]) 4 ZK rfl rfl ?_
 refine l_fieldv rfl rfl underlying77 rfl underlying75 rfl rfl rfl ?_
 refine Z01 ?_
 refine Z0n (H6.ok mem2) ?_
 refine Z0v (L' := [Zy,Zy,Zy,Zy,Zy,Zy,Zy,Zy,Zz,Zz,Zz,Zz]) 7 ZK rfl rfl ?_
 refine l_cally rfl rfl rfl (.cons rfl (.cons rfl .nil)) (writeD s hs b hb hok w6) ?_
 rintro _ w7 ⟨v', rfl, hG⟩
 have H7 := hG _ _ _ _ H6
 simp only [Zca, Zna] at H7
 refine Z01 ?_
 refine Z0n (H7.ok mem3) ?_
 apply Zu (L' := [Zy,Zy,Zy,Zy,Zy,Zy,Zy,Zy,Zy,Zz,Zz,Zz]) 8 (H7.ok mem3)
 ·intro wS sS
  refine Zx (Z01 ?_)
  exact Z04 rfl
 apply Zu (L' := [Zy,Zy,Zy,Zy,Zy,Zy,Zy,Zy,Zy,Zy,Zz,Zz]) 9 (H7.ok mem3)
 ·intro wS sS
  refine Zx (Z01 ?_)
  exact Z04 rfl
 apply Zu (L' := [Zy,Zy,Zy,Zy,Zy,Zy,Zy,Zy,Zy,Zy,Zy,Zz]) 10 (H7.ok mem3)
 ·intro wS sS
  refine Zg (Z01 ?_)
  exact Z04 rfl
 apply Zu (L' := [Zy,Zy,Zy,Zy,Zy,Zy,Zy,Zy,Zy,Zy,Zy,Zy]) 11 (H7.ok mem3)
 ·intro wS sS
  refine Zg (Z01 ?_)
  exact Z04 rfl
 refine Z0B ZK ?_
 refine Z02 ?_
 refine Zk [6, 7] ?_
 refine Z0i ?_
 refine Z0P results12 rfl rfl ?_
 refine ⟨_, rfl, ?_⟩
 have H10 := St.del (.tail .head) (St.del (.tail (.tail .head)) (St.del (.tail (.tail (.tail .head))) H7))
 exact ⟨_, rfl, H10.grows⟩
theorem IB.sl {w : World} {v : Value} {t : L8} (h : IB w v t) : ∃ A c, v = .slice A t.length c ∧ IB w (.slice A t.length c) t := by
 obtain ⟨A, c, e, h2, h3⟩ := h
 rw [show (bys t).length = t.length from by simp [bys]] at e
 exact ⟨A, c, e, A, c, by rw [show (bys t).length = t.length from by simp [bys]], h2, h3⟩
theorem good15 : Z6X [49, 46, 53] 2 ∧ scV [49, 46, 53] 2 = 150 := by
 refine ⟨⟨by decide, by decide, fun i h1 h2 => ?_, by decide⟩, by decide⟩
 have : (frS [49, 46, 53]).length = 1 := by decide
 omega
theorem read15 {L L' : Cac} {hn : Bool} {x e : Int} {lt : List UInt8} {nu : Bool} {o : Option Int} (h : RdX 12 2 false hn [49, 46, 53] [] L x lt nu e o L') : x = 150 ∧ nu = false ∧ e = 0 := by
 cases h with
 | kind h => exact absurd (by decide) h
 | null h h2 => exact absurd h2.2 (by decide)
 | nonull h h2 => exact absurd h2.2 (by decide)
 | val h h2 h3 h4 =>
  have := h4 rfl (by decide) good15.1
  exact ⟨this.1.trans good15.2, rfl, this.2⟩
 | long h h2 h3 => omega
 | text h h2 h3 => omega
theorem sz150 : szV 150 = 150 := by decide
theorem dtx150 : dtx 150 = [49, 53, 48] := by
 rw [Z5P (by decide), Z5P (by decide), dtx_sm (by decide) (by decide)]
 rfl
theorem sc150 : scT 150 2 = [49, 46, 53, 48] := by
 unfold scT scD scN padW
 rw [sz150, dtx150]
 rfl
theorem numL21 (x : Int) (w : World) :
  Z0f P 15 [.int .i64 x] w fun r w' => r = .int .i64 x ∧ w = w' := by
 refine Z0o func15 rfl ntmps15 rfl ?_
 refine Z03 (Z00 (Zg (Z01 (Z02 ?_))))
 refine Zk [0] ?_
 refine Z03 (Z00 (Zm (Zg (Z01 (Z02 ?_)))))
 refine Zk [2] ?_
 refine Z0i ?_
 refine Z0e results15 rfl ?_
 refine ⟨_, rfl, ?_⟩
 exact ⟨rfl, rfl⟩
theorem wakesL21  (w : World) :
  Z0f P 19 [] w fun r w' => r = .bool true ∧ Grow w w' [] := by
 refine Z0o func19 rfl ntmps19 rfl ?_
 have H0 := St.start w
 refine Z03 (Z00 (Zg (Z01 (Z02 ?_))))
 refine Zk [] ?_
 refine Z03 (Z00 ?_)
 refine Zc func20 (newC w) ?_
 rintro _ w1 ⟨b, rfl, hG⟩
 have H1 := hG _ _ _ _ H0
 simp only [Zca, Zna] at H1
 refine Zg (Z01 (Z02 ?_))
 refine Zk [1] ?_
 refine Z03 (Z03 (Z00 (Zm ?_)))
 refine Z40 ZK rfl rfl rfl rfl ?_
 refine Z0j (s := 11) (v' := .bool false) rfl (by rfl) ?_
 refine Z01 (Z02 ?_)
 refine Zk [1, 11] ?_
 refine Z0Q rfl rfl ?_
 refine Z0a (Z02 ?_)
 refine Zk [1] ?_
 refine Z03 (Z00 ?_)
 refine Z16 rfl rfl pl23 ta23 (.one rfl rfl ZR .zero (.one rfl rfl ZR (.succ .zero) .nil)) ?_
 refine Z16 rfl rfl pl56 ta56 (.one rfl rfl ZR .zero (.row rfl rfl rfl (.succ (.zero (.zero .nil))) .nil)) ?_
 refine Z0X H1 ta56 rfl rfl (fun b4_2 w2 H2 => ?_)
 refine Z0m H2 .head (.zero (.zero (.zero (.zero .nil)))) rfl tz56 rfl rfl ZC (fun w3 H3 => ?_)
 refine Z01 (Z02 ?_)
 refine Zk [1, 2] ?_
 refine Z03 (Z00 (Zm ?_))
 refine Z16 rfl rfl pl52 ta52 (.one rfl rfl ZR .zero .nil) ?_
 refine Z1b H3 mem0 rfl rfl underlying56 rfl tz56 rfl (.take (.take (.take (.take .nil)))) ?_
 refine Z2g H3 rfl rfl underlying25 ti5 rfl (.cons rfl ZR (.cons rfl ZR (.cons rfl ZR .nil))) rfl rfl rfl (fun b5_3 w4 H4 => ?_)
 refine l_mark H4 rfl rfl underlying25 underlying5 rfl rfl (fun v5_4 w5 H5 => ?_)
 obtain ⟨A, c, rfl, hv1⟩ := IB.sl (t := [49, 46, 53]) (H5.ii mem0)
 refine Z16 rfl rfl pl58 ta58 (.one rfl rfl ZR (.succ (.succ (.succ .zero))) .nil) ?_
 have H6 := St.frontL (l := [_, _, _]) H5
 simp only [Zca, Zna] at H6
 have H7 := St.frontL (l := [_, _, _]) H6
 simp only [Zca, Zna] at H7
 refine Z0I rfl rfl func21 rfl rfl (.cons rfl (.cons rfl (.cons rfl (.cons rfl .nil)))) (ReadC b (List.replicate 41 none) (List.length_replicate ..) 44 0 0 0 12 2 [] [97] false false false A c [49, 46, 53] (by decide) w5 (St.rows (τ := cacW b (List.replicate 41 none)) H7) (Z7a (τ := cacW b (List.replicate 41 none)) H7 (A := As.iv _ _) (.head _) (R := fun w1 => IB w1 _ [49, 46, 53]) (fun w1 h => h))) ?_
 rintro _ w8 ⟨x1, vt1, lt1, nu1, e1, o1, L1, rfl, hRd1, hX⟩
 have H8 := hX _ _ _ _ H7
 simp only [cacW, List.cons_append, List.nil_append] at H8
 obtain ⟨rfl, rfl, rfl⟩ := read15 hRd1
 refine Zm ?_
 refine Zx (Zx (Zx (Zx (Zg ?_))))
 refine Zg ?_
 refine Zg ?_
 refine Zg (Z01 (Z02 ?_))
 refine Zk [2, 3, 5, 6] ?_
 refine Z03 (Z00 (Z09 Z6e rfl rfl rfl ?_))
 refine Z1b H8 mem4 rfl rfl underlying23 rfl tz23 rfl (.drop (.take (.take .nil))) ?_
 refine Z0I rfl rfl func12 rfl rfl (.cons rfl (.cons rfl (.cons rfl .nil))) (WriteD 2 (by decide) 150 (by decide) (by decide) _ w8) ?_
 rintro _ w9 ⟨vt2, rfl, hG⟩
 have H9 := hG _ _ _ _ H8
 simp only [Zca, Zna] at H9
 refine Zm ?_
 refine Zx (Zx (Zg ?_))
 refine Zg (Z01 (Z02 ?_))
 refine Zk [3, 5, 6, 7, 8] ?_
 refine Z03 (Z00 (Zm ?_))
 refine Z13 rfl rfl func15 rfl rfl (.cons rfl .nil) (numL21 _ _) ?_
 refine Ze ?_
 refine Z0j (s := 34) (v' := .bool true) rfl (by rfl) ?_
 refine Zm ?_
 refine Zm ?_
 refine Ze ?_
 refine Z0j (s := 37) (v' := .bool true) rfl (by rfl) ?_
 refine Z1l rfl rfl rfl rfl ?_
 refine Zm ?_
 refine Zm ?_
 first | refine Z38 rfl rfl rfl ?_ | refine Z3v rfl rfl rfl ?_
 refine Z0j (s := 41) (v' := .bool true) rfl (by rfl) ?_
 refine Z1l rfl rfl rfl rfl ?_
 refine Zm ?_
 refine Zm ?_
 refine Z13 rfl rfl func15 rfl rfl (.cons rfl .nil) (numL21 _ _) ?_
 refine Ze ?_
 refine Z0j (s := 46) (v' := .bool true) rfl (by rfl) ?_
 refine Z1l rfl rfl rfl rfl ?_
 refine Zm ?_
 refine Zm ?_
 refine Z6k (l := scT 150 2) rfl rfl underlying25 underlying5 underlying9 rfl (by first | exact H9.io mem0 | exact H9.io mem1 | exact H9.ibl mem2 | exact H9.ii mem4 | exact H9.ibl mem5 | assumption) ?_
 refine Z5W rfl rfl rfl rfl ?_
 refine Z0j (s := 51) (v' := .bool true) rfl (by rw [sc150]; rfl) ?_
 refine Z1l rfl rfl rfl rfl ?_
 refine Zg (Z01 (Z02 ?_))
 refine Zk [0] ?_
 refine Z0i ?_
 refine Z0e results19 rfl ?_
 refine ⟨_, rfl, ?_⟩
 have H15 := St.del .head (St.del (.tail .head) (St.del (.tail (.tail .head)) (St.del (.tail (.tail (.tail .head))) (St.del (.tail (.tail (.tail (.tail .head)))) (St.del (.tail (.tail (.tail (.tail (.tail .head))))) H9)))))
 exact ⟨rfl, H15.grows⟩
theorem quad_cells {cs : Array Value} {v0 v1 v2 v3 : Value} (h : cs.toList.length = 4) (e0 : (cs.toList.drop 0).take 1 = [v0]) (e1 : (cs.toList.drop 1).take 1 = [v1]) (e2 : (cs.toList.drop 2).take 1 = [v2]) (e3 : (cs.toList.drop 3).take 1 = [v3]) : cs = #[v0, v1, v2, v3] := by
 obtain ⟨l⟩ := cs
 match l, h with
 | [a, b, c, d], _ => simp_all
theorem hasN (t : Nat) : hasP (List.replicate 41 none) t = false := by
 unfold hasP
 rw [List.getElem?_replicate]
 split <;> (try rfl) <;> (split at * <;> simp_all)
theorem NeX.in {k s q' : Int} {q : Bool} {t nl : List UInt8} (h : NeX k s q t nl (some q')) : inQ q' := by
 rcases h with ⟨_, _, _, hN⟩ | ⟨_, h⟩
 ·cases hN with
  | ask _ _ _ _ hx => exact hx
 cases h
theorem need_bd {k s : Int} {q : Bool} {t nl : List UInt8} {o : Option Int} (h : NeX k s q t nl o) : 0 ≤ Z6o o ∧ Z6o o ≤ 40 ∧ (o.isSome = false → Z6o o = 0) ∧ ∀ q', o = some q' → Z6o o = (q' + 342) / 16 := by
 cases o with
 | none => exact ⟨by decide, by decide, fun _ => rfl, fun q h => (by cases h)⟩
 | some q =>
  have hq := h.in
  unfold inQ at hq
  have e : Z6o (some q) = (q + 342) / 16 := by
   show (Z0K q).1 = _
   unfold Z0K
   rw [if_neg ZO]
  exact ⟨ZO, ZO, fun h => (by cases h), fun q' h' => by cases h'; exact e⟩
theorem need_built {k s : Int} {q : Bool} {t nl : List UInt8} {o : Option Int} {L' : Cac} (h : NeX k s q t nl o) (hc : CaO (List.replicate 41 none) o L' ∨ L' = List.replicate 41 none ∧ o = none) (i : Nat) : hasP L' i = decide (o.isSome = true ∧ (i : Int) = Z6o o) := by
 have hb := need_bd h
 cases o with
 | none =>
  have : L' = List.replicate 41 none := by rcases hc with h | h; exact h; exact h.1
  rw [this, hasN]
  simp
 | some q' =>
  have hQ : CacQ (List.replicate 41 none) q' L' := by rcases hc with h | h; exact h; cases h.2
  have hq := h.in
  rw [hQ.has, hasN, Bool.or_false, decide_eq_decide, hb.2.2.2 q' rfl]
  have hq2 := hq
  unfold inQ at hq2
  exact ⟨fun h => ⟨rfl, ZO⟩, fun h => ⟨hq, ZO⟩⟩
theorem kindW (n : Int) (hn : i64I n) (w : World) :
  Z0f P 9 [.int .i64 n] w fun r w' => ∃ k s, r = .agg #[.int .i64 k, .int .i64 s] ∧ okT k s ∧ Grow w w' [] := by
 refine Z0o func9 rfl ntmps9 rfl ?_
 have H0 := St.start w
 have h1 := witF_bd (n := n) (lo := 1) (hi := 16) ZO
 have h2 := witF_bd (n := n / 16) (lo := 0) (hi := 18) ZO
 refine Z03 (Z00 ?_)
 refine Z0X H0 ta23 rfl rfl (fun b0_0 w1 H1 => ?_)
 refine Z01 (Z02 (Z03 (Z00 (Zm ?_))))
 refine Zp func29 (withinW n 1 16 hn ZO _) ?_
 refine Z16 rfl rfl pl23 ta23 (.one rfl rfl ZR .zero .nil) ?_
 refine Z0X H1 ta23 rfl rfl (fun b1_3 w2 H2 => ?_)
 refine Z0m H2 .head (.zero (.zero .nil)) rfl tz23 rfl rfl ZC (fun w3 H3 => ?_)
 refine Z01 (Z02 ?_)
 refine Zk [0, 2, 3] ?_
 refine Z03 (Z03 (Z00 (Z09 Z5p rfl rfl rfl ?_)))
 refine Z05 H3 mem0 rfl rfl underlying3 rfl rfl rfl ?_
 refine Ze ?_
 refine Z01 (Z02 ?_)
 refine Zk [0, 2, 3, 9] ?_
 (first | refine Z0c rfl ?_ ?_ | refine Z08 rfl ?_ ?_) <;> intro hc0
 ·refine Z00 (Zm ?_)
  refine Z3e rfl rfl rfl rfl ZO (Z2b (d := 16) (by decide) (by decide)) ?_
  refine Zp func29 (withinW (n / 16) 0 18 ZO ZO _) ?_
  refine Z09 fo23_1 rfl rfl rfl ?_
  refine Z0s H3 .head (by repeat (first | exact .zero | apply Z1F.succ)) rfl tz3 rfl rfl ZR (fun w4 H4 => ?_)
  refine Z01 (Z02 ?_)
  refine Zk [2, 3] ?_
  refine Z03 (Z00 ?_)
  refine Z1b H4 mem0 rfl rfl underlying23 rfl tz23 rfl (.take (.take .nil)) ?_
  refine Z0m H4 (.tail .head) (.zero (.zero .nil)) rfl tz23 rfl rfl ZC (fun w5 H5 => ?_)
  refine Z01 (Z02 ?_)
  refine Zk [2] ?_
  refine Z0i ?_
  refine Z2n results9 (.cell rfl (Z0E H5 mem1 underlying23 rfl tz23 (.take (.take .nil))) .nil) ?_
  refine ⟨_, rfl, ?_⟩
  have H7 := St.del .head (St.del (.tail .head) H5)
  exact ⟨_, _, rfl, ⟨ZO, ZO, by rw [if_pos ZO]; omega⟩, H7.grows⟩
 refine Z0a (Z02 ?_)
 refine Zk [2, 3] ?_
 refine Z03 (Z00 ?_)
 refine Z1b H3 mem0 rfl rfl underlying23 rfl tz23 rfl (.take (.take .nil)) ?_
 refine Z0m H3 (.tail .head) (.zero (.zero .nil)) rfl tz23 rfl rfl ZC (fun w8 H8 => ?_)
 refine Z01 (Z02 ?_)
 refine Zk [2] ?_
 refine Z0i ?_
 refine Z2n results9 (.cell rfl (Z0E H8 mem1 underlying23 rfl tz23 (.take (.take .nil))) .nil) ?_
 refine ⟨_, rfl, ?_⟩
 have H10 := St.del .head (St.del (.tail .head) H8)
 exact ⟨_, _, rfl, ⟨ZO, ZO, by rw [if_neg ZO]; omega⟩, H10.grows⟩
theorem wordedW (k s : Int) (w : World) :
  Z0f P 22 [.agg #[.int .i64 k, .int .i64 s]] w fun r w' => r = .bool (decide (k = 15 ∨ k = 16)) ∧ Grow w w' [] := by
 refine Z0o func22 rfl ntmps22 rfl ?_
 have H0 := St.start w
 refine Z03 (Z00 ?_)
 refine Z57 H0 rfl rfl rfl (fun b0_0 w1 H1 => ?_)
 refine Zg (Z01 (Z02 ?_))
 refine Zk [1] ?_
 refine Z03 (Z00 (Z09 Z5p rfl rfl rfl ?_))
 refine Z05 H1 mem0 rfl rfl underlying3 rfl rfl rfl ?_
 refine Ze ?_
 refine Zm ?_
 apply l_or (q := k = 16) 3 [] rfl rfl (.cons rfl .nil) rfl rfl (fun _ => rfl) rfl rfl rfl
 ·intro hg1_4
  refine Z09 Z5p rfl rfl rfl ?_
  refine Z05 H1 mem0 rfl rfl underlying3 rfl rfl rfl ?_
  refine Ze ?_
  refine Z01 ?_
  exact Z0O rfl (.cons rfl (ZF hg1_4) .nil)
  all_goals infer_instance
 refine Zg (Z01 (Z02 ?_))
 refine Zk [2] ?_
 refine Z0i ?_
 refine Z0e results22 rfl ?_
 refine ⟨_, rfl, ?_⟩
 have H2 := St.del .head H1
 exact ⟨rfl, H2.grows⟩
theorem cutQ (v : Value) (l : L8) (n : Nat) (w : World) (hv : IB w v l) :
  Z0f P 8 [v, .int .i64 (n : Int)] w fun r w' => (∀ w1 : World, IB w1 v l → IB w1 r (l.take n)) ∧ w = w' := by
 refine Z0o func8 rfl ntmps8 rfl ?_
 refine Z03 (Z00 (Zg (Z01 (Z02 ?_))))
 refine Zk [0, 1] ?_
 refine Z03 (Z03 (Z00 (Zm ?_)))
 refine Z4W rfl rfl underlying25 rfl (by first | exact hv | assumption) ?_
 refine Zm ?_
 refine Zw ?_
 refine Z01 (Z02 ?_)
 refine Zk [0, 1, 8] ?_
 (first | refine Z0c rfl ?_ ?_ | refine Z08 rfl ?_ ?_) <;> intro hc0
 ·refine Z03 (Z00 (Zm (Zm ?_)))
  obtain ⟨A, c, hve, hvc⟩ := Z6W hv
  refine Z2d (size := 1) (l := 0) (h := n) (mm := c) rfl rfl underlying25 tz5 (by show some v = _; rw [hve]) rfl rfl rfl rfl rfl rfl (by first | rfl | (simp; done)) ZO ZO (Nat.le_refl _) ?_
  refine Zg (Z01 (Z02 ?_))
  refine Zk [4] ?_
  refine Z0i ?_
  refine Z07 ?_
  refine Z0e results8 rfl ?_
  refine ⟨_, rfl, ?_⟩
  refine ⟨fun w1 h1 => ?_, rfl⟩
  rw [hve] at h1
  have h2 := ib_cut (l := 0) (h := n) h1 ZO ZO hvc
  simpa using h2
 refine Z0a (Z02 ?_)
 refine Zk [0] ?_
 refine Z03 (Z00 (Zm (Zg (Z01 (Z02 ?_)))))
 refine Zk [4] ?_
 refine Z0i ?_
 refine Z0e results8 rfl ?_
 refine ⟨_, rfl, ?_⟩
 exact ⟨fun w1 h1 => by rw [List.take_of_length_le ZO]; exact h1, rfl⟩
theorem cellNeedsL (n : Int) (hn : i64I n) (fr to : Int) (q : Bool) (v : Value) (l : L8) (w : World) (hv : IB w v l) :
  Z0f P 6 [.int .i64 n, .agg #[.int .i64 fr, .int .i64 to, .bool q, v]] w fun r w' => r = .bool true ∧ Grow w w' [] := by
 refine Z0o func6 rfl ntmps6 rfl ?_
 have H0 := St.start w
 obtain ⟨t, ht⟩ : ∃ t, t = l.take 1100 := ⟨_, rfl⟩
 have htl : t.length ≤ 1100 := by rw [ht, List.length_take]; omega
 have hvo : v.oneCell' = true := by
  obtain ⟨A, c, rfl, _⟩ := hv
  rfl
 refine Z03 (Z00 ?_)
 refine Z57 H0 rfl rfl rfl (fun b0_0 w1 H1 => ?_)
 refine Zg (Z01 (Z02 ?_))
 refine Zk [0, 3] ?_
 refine Z03 (Z00 (Z09 Z6Q rfl rfl rfl ?_))
 refine Z05 H1 mem0 rfl rfl underlying25 rfl rfl rfl ?_
 refine Zc func8 (cutQ v l 1100 w1 (H1.iarg hv)) ?_
 rintro va _ ⟨hvc, rfl⟩
 have hv1 := hvc w hv
 rw [← ht] at hv1
 obtain ⟨A, c, rfl, hv1⟩ := IB.sl hv1
 refine Z09 Z6Q rfl rfl rfl ?_
 refine Z0s H1 .head (by repeat (first | exact .zero | apply Z1F.succ)) rfl tz25 rfl rfl ZR (fun w2 H2 => ?_)
 refine Z01 (Z02 ?_)
 refine Zk [0, 3] ?_
 refine Z03 (Z00 ?_)
 refine Zc func20 (newC w2) ?_
 rintro _ w3 ⟨b, rfl, hG⟩
 have H3 := hG _ _ _ _ H2
 simp only [Zca, Zna] at H3
 refine Zg (Z01 (Z02 ?_))
 refine Zk [0, 3, 5] ?_
 refine Z03 (Z03 (Z00 (Zm ?_)))
 refine Z40 ZK rfl rfl rfl rfl ?_
 refine Z0j (s := 18) (v' := .bool false) rfl (by rfl) ?_
 refine Zm ?_
 refine Zc func19 (wakesL21 w3) ?_
 rintro _ w4 ⟨rfl, hG⟩
 have H4 := hG _ _ _ _ H3
 simp only [Zca, Zna] at H4
 first | refine Z38 rfl rfl rfl ?_ | refine Z3v rfl rfl rfl ?_
 refine Z0j (s := 21) (v' := .bool false) rfl (by rfl) ?_
 refine Z0Z rfl rfl rfl rfl ?_
 refine Z01 (Z02 ?_)
 refine Zk [0, 3, 5, 22] ?_
 refine Z0Q rfl rfl ?_
 refine Z0a (Z02 ?_)
 refine Zk [0, 3, 5] ?_
 refine Z03 (Z00 ?_)
 refine Z16 rfl rfl pl52 ta52 (.one rfl rfl ZR .zero (.one rfl rfl ZR (.succ .zero) .nil)) ?_
 refine Z0X H4 ta52 rfl rfl (fun b5_1 w5 H5 => ?_)
 refine Z0m H5 .head (.zero (.zero (.zero (.zero .nil)))) rfl tz52 rfl rfl ZC (fun w6 H6 => ?_)
 refine Z01 (Z02 ?_)
 refine Zk [0, 3, 5, 6] ?_
 refine Z03 (Z00 (Zm ?_))
 refine Zc func9 (kindW n hn w6) ?_
 rintro _ w7 ⟨k, s, rfl, hok, hG⟩
 have H7 := hG _ _ _ _ H6
 simp only [Zca, Zna] at H7
 refine Z16 rfl rfl pl56 ta56 (.one rfl rfl ZR .zero (.row rfl rfl rfl (.succ (.zero (.zero .nil))) (.one rfl rfl ZR (.succ (.succ (.succ .zero))) .nil))) ?_
 refine Z0X H7 ta56 rfl rfl (fun b6_3 w8 H8 => ?_)
 refine Z0m H8 .head (.zero (.zero (.zero (.zero .nil)))) rfl tz56 rfl rfl ZC (fun w9 H9 => ?_)
 refine Z01 (Z02 ?_)
 refine Zk [3, 5, 6, 7] ?_
 refine Z03 (Z00 ?_)
 refine Z1b H9 mem1 rfl rfl underlying52 rfl tz52 rfl (.take (.take (.take (.take .nil)))) ?_
 refine Z1b H9 mem0 rfl rfl underlying56 rfl tz56 rfl (.take (.take (.take (.take .nil)))) ?_
 refine Z1b H9 mem4 rfl rfl underlying58 rfl tz58 rfl (.take (.take (.take (.take .nil)))) ?_
 refine Zc func25 (NeedC 44 34 fr to k s [] [97] false q true A c t ZO w9 (H9.iarg hv1)) ?_
 rintro _ w10 ⟨o, rfl, hNe, hG⟩
 have H10 := hG _ _ _ _ H9
 simp only [Zca, Zna] at H10
 refine Zm ?_
 refine Zx (Zx (Zg ?_))
 refine Zg (Z01 (Z02 ?_))
 refine Zk [3, 5, 6, 7, 8, 9] ?_
 refine Z03 (Z00 (Zm ?_))
 refine Z1b H10 mem1 rfl rfl underlying52 rfl tz52 rfl (.take (.take (.take (.take .nil)))) ?_
 refine Z1b H10 mem0 rfl rfl underlying56 rfl tz56 rfl (.take (.take (.take (.take .nil)))) ?_
 refine Z1b H10 mem4 rfl rfl underlying58 rfl tz58 rfl (.take (.take (.take (.take .nil)))) ?_
 have H11 := St.frontL (l := [_, _, _]) H10
 simp only [Zca, Zna] at H11
 have H12 := St.frontL (l := [_, _, _]) H11
 simp only [Zca, Zna] at H12
 refine Zc func21 (ReadC b (List.replicate 41 none) (List.length_replicate ..) 44 34 fr to k s [] [97] false q true A c t ZO w10 (St.rows (τ := cacW b (List.replicate 41 none)) H12) (Z6f (F := Z0J) (τ := cacW b (List.replicate 41 none)) H12 (fun w1 h1 => IV.mono hv1 fun j hj => h1 j hj (fun e => e)))) ?_
 rintro _ w13 ⟨xx, vtx, ltx, nux, ex, ox, Lx, rfl, hRdx, hX⟩
 have H13 := hX _ _ _ _ H12
 simp only [cacW, List.cons_append, List.nil_append] at H13
 have hbd := need_bd hNe
 obtain ⟨ho, hL1, hC1⟩ := hNe.read hRdx
 subst ho
 have hLx2 : Lx.length = 41 := by
  rcases hL1 with h | h
  ·exact h
  rw [h]; exact (List.length_replicate ..)
 have hbu := need_built hNe hC1
 refine Z01 (Z02 ?_)
 refine Zk [5, 8, 9] ?_
 refine Z03 (Z03 (Z00 ?_))
 refine Z0j (s := 9) (v' := .bool (decide (o.isSome = true))) rfl (by cases o <;> rfl) ?_
 refine Zg (Z01 (Z02 (Z0d ?_)))
 refine Z0z (ι := Nat) (fun (i : Nat) => 41 - i) (fun (i : Nat) (w' : World) => St w w.heap.size Z0J (cacW b Lx) w' ∧ i ≤ 41) (fun (i : Nat) => [(10, .int .i64 (i : Int))]) [5, 8, 9] (0) ?_ (.cons rfl (.cons rfl (.cons rfl .nil))) ?_ ?_
 ·have hd0 := St.del .head H13
  have hd1 := St.del (.tail (.tail .head)) hd0
  have hd2 := St.del (.tail (.tail .head)) hd1
  have hd3 := St.del (.tail (.tail .head)) hd2
  exact ⟨hd3, ZO⟩
 ·exact (.cons rfl ZN .nil)
 rintro i w14 ⟨H14, hi⟩
 show RunC P _ _ _ (_ :: _) _
 refine Z03 (Z03 (Z00 (Zm ?_)))
 refine Zl ?_
 refine Z01 (Z02 ?_)
 refine Zk [5, 8, 9, 10, 40] ?_
 (first | refine Z0c rfl ?_ ?_ | refine Z08 rfl ?_ ?_) <;> intro hc1
 ·refine Z0a (Z02 ?_)
  refine Zk [5, 8, 9, 10] ?_
  refine Z03 (Z0d (Z03 (Z00 (Zg (Z01 (Z02 ?_))))))
  refine Z1q (ι := Int) (fun (wn : Int) (w' : World) => St w w.heap.size Z0J (cacW b Lx) w' ∧ wn = if o.isSome = true ∧ (i : Int) = Z6o o then 1 else 0) (fun (wn : Int) => [(11, .int .i64 wn)]) [5, 8, 9, 10] (.cons rfl (.cons rfl (.cons rfl (.cons rfl .nil)))) ?_ ?_
  ·refine Z03 (Z00 (Zm ?_))
   refine Zm ?_
   apply Z47 (q := (i : Int) = Z6o o) 3 [5, 8, 9, 10, 11] rfl rfl (.cons rfl (.cons rfl (.cons rfl (.cons rfl (.cons rfl (.cons rfl .nil)))))) rfl rfl (fun _ => rfl) rfl rfl rfl
   ·intro hg13_2
    refine Zm ?_
    refine Zm ?_
    refine Ze ?_
    refine Z01 ?_
    exact Z0O rfl (.cons rfl (ZT hg13_2) (.cons rfl rfl (.cons rfl rfl (.cons rfl rfl (.cons rfl rfl (.cons rfl rfl .nil))))))
    all_goals infer_instance
   refine Z01 (Z02 ?_)
   refine Zk [5, 8, 9, 10, 11, 48] ?_
   (first | refine Z0c rfl ?_ ?_ | refine Z08 rfl ?_ ?_) <;> intro hc2
   ·refine Z00 (Zg (Z01 ?_))
    have H15 := St.frontL (l := [_]) H14
    simp only [Zca, Zna] at H15
    have H16 := St.frontL (l := [_]) H15
    simp only [Zca, Zna] at H16
    refine Z0w (1) ?_ (.cons rfl (.cons rfl (.cons rfl (.cons rfl .nil)))) ?_
    ·exact ⟨H16, (if_pos hc2).symm⟩
    exact (.cons rfl ZN .nil)
   refine Z0a ?_
   have H17 := St.frontL (l := [_]) H14
   simp only [Zca, Zna] at H17
   have H18 := St.frontL (l := [_]) H17
   simp only [Zca, Zna] at H18
   refine Z0w (0) ?_ (.cons rfl (.cons rfl (.cons rfl (.cons rfl .nil)))) ?_
   ·exact ⟨H18, (if_neg hc2).symm⟩
   exact (.cons rfl ZN .nil)
  rintro wn w19 ⟨H19, hwn⟩
  show RunC P _ _ _ (_ :: _) _
  refine Z03 (Z00 (Zm ?_))
  refine Zm ?_
  refine Z13 rfl rfl func27 rfl rfl (.cons rfl (.cons rfl .nil)) (BuiltC b Lx hLx2 _ _ (H19.ok mem0) (H19.ok mem1)) ?_
  have hbi : (if (0 ≤ (i : Int) ∧ (i : Int) < 41) ∧ hasP Lx ((i : Int)).toNat = true then (1 : Int) else 0) = wn := by
   rw [hwn, Int.toNat_natCast, hbu i]
   by_cases hh : o.isSome = true ∧ (i : Int) = Z6o o
   ·rw [if_pos ⟨ZO, decide_eq_true hh⟩, if_pos hh]
   rw [if_neg (fun h => hh (of_decide_eq_true h.2)), if_neg hh]
  refine Zm ?_
  refine Zo ?_
  refine Z0j (s := 53) (v' := .bool false) rfl (by rw [hbi]; simp) ?_
  refine Z01 (Z02 ?_)
  refine Zk [5, 8, 9, 10, 53] ?_
  refine Z0Q rfl rfl ?_
  refine Z0a ?_
  refine Z0F ?_
  refine Z02 ?_
  refine Zk [5, 8, 9, 10] ?_
  refine Z00 (Zm ?_)
  refine Z0y rfl rfl rfl rfl (Z0l ZO) ?_
  refine Zg (Z01 ?_)
  refine Z0p (i := (i)) (i + 1) ?_ ?_ (.cons rfl (.cons rfl (.cons rfl .nil))) ?_
  ·first | omega | (simp; omega)
  ·exact ⟨H19, ZO⟩
  exact (.cons rfl ZN .nil)
 refine Z0H ?_
 refine Z06 ?_
 refine Z06 ?_
 refine Z0h ?_
 refine Z02 ?_
 refine Zk [8, 9] ?_
 refine Z03 (Z00 (Zm ?_))
 refine Zh ?_
 refine Z0j (s := 55) (v' := .bool true) rfl (by simp; omega) ?_
 refine Zm ?_
 refine Zm ?_
 refine Zl ?_
 refine Z0j (s := 58) (v' := .bool true) rfl (by simp; omega) ?_
 refine Z1l rfl rfl rfl rfl ?_
 refine Zm ?_
 refine Z1l rfl rfl rfl rfl ?_
 refine Zm ?_
 refine Zm ?_
 refine Zm ?_
 apply l_or (q := Z6o o = 0) 2 [62] rfl rfl (.cons rfl (.cons rfl .nil)) rfl rfl (fun _ => rfl) rfl rfl rfl
 ·intro hg17_11
  refine Zm ?_
  refine Ze ?_
  refine Z01 ?_
  exact Z0O rfl (.cons rfl (ZF hg17_11) (.cons rfl rfl .nil))
  all_goals infer_instance
 refine Z1l rfl rfl rfl rfl ?_
 refine Z0j (s := 68) (v' := .bool true) rfl (by exact congrArg Value.bool (decide_eq_true ((Bool.eq_false_or_eq_true o.isSome).elim .inl (fun h => .inr (hbd.2.2.1 h))))) ?_
 refine Zg (Z01 (Z02 ?_))
 refine Zk [4] ?_
 refine Z0i ?_
 refine Z0e results6 rfl ?_
 refine ⟨_, rfl, ?_⟩
 have H23 := St.del .head (St.del (.tail .head) (St.front1 (St.front1 H14)))
 exact ⟨rfl, H23.grows⟩
theorem RdX.nul1 {k s : Int} {t : L8} {L L' : Cac} {x e : Int} {lt : L8} {nu : Bool} {o : Option Int} (h : RdX k s false true t t L x lt nu e o L') (hok : okT k s) : x = 0 ∧ lt = [] ∧ nu = true ∧ e = 0 ∧ L' = L := by
 cases h with
 | kind h => exact absurd hok h
 | null => exact ⟨rfl, rfl, rfl, rfl, rfl⟩
 | nonull _ _ h => cases h
 | val _ h => exact absurd ⟨rfl, rfl⟩ h
 | long _ h => exact absurd ⟨rfl, rfl⟩ h
 | text _ h => exact absurd ⟨rfl, rfl⟩ h
theorem RdX.nul2 {k s : Int} {t : L8} {L L' : Cac} {x e : Int} {lt : L8} {nu : Bool} {o : Option Int} (h : RdX k s false false t t L x lt nu e o L') (hok : okT k s) : nu = false ∧ e = 210 ∧ L' = L := by
 cases h with
 | kind h => exact absurd hok h
 | null _ _ h => cases h
 | nonull => exact ⟨rfl, rfl, rfl⟩
 | val _ h => exact absurd ⟨rfl, rfl⟩ h
 | long _ h => exact absurd ⟨rfl, rfl⟩ h
 | text _ h => exact absurd ⟨rfl, rfl⟩ h
theorem RdX.quo {k s : Int} {t : L8} {L L' : Cac} {x e : Int} {lt : L8} {nu : Bool} {o : Option Int} (h : RdX k s true true t t L x lt nu e o L') (hok : okT k s) (ht : t.length ≤ 4000) : nu = false ∧ ((k = 15 ∨ k = 16) → e = 0 ∧ lt = t) := by
 have hk := hok.1
 cases h with
 | kind h => exact absurd hok h
 | null _ h => cases h.1
 | nonull _ h => cases h.1
 | val _ _ h => exact ⟨rfl, fun h2 => by omega⟩
 | long _ _ _ h => omega
 | text => exact ⟨rfl, fun _ => ⟨rfl, rfl⟩⟩
theorem NeX.nul {k s : Int} {t : L8} {o : Option Int} (h : NeX k s false t t o) : o = none := by
 rcases h with ⟨_, h, _⟩ | ⟨_, h⟩
 ·exact absurd ⟨rfl, rfl⟩ h
 exact h
theorem heldZ : ∀ k, Z63 (List.replicate 41 none) k = 0
 | 0 => rfl
 | k + 1 => by
  rw [Z63, heldZ k, hasN]
  rfl
theorem cellNullsL (n : Int) (hn : i64I n) (nl : L8) (w : World) :
  Z0f P 7 [.int .i64 n, str nl] w fun r w' => r = .bool true ∧ Grow w w' [] := by
 refine Z0o func7 rfl ntmps7 rfl ?_
 have H0 := St.start w
 refine Z03 (Z00 (Zg (Z01 (Z02 ?_))))
 refine Zk [0, 1] ?_
 refine Z1q (ι := L8) (fun (t : L8) (w' : World) => St w w.heap.size Z0J ([]) w' ∧ t.length ≤ 4000) (fun (t : L8) => [(1, str t)]) [0] (.cons rfl .nil) ?_ ?_
 ·refine Z03 (Z00 (Zm ?_))
  refine Z5f rfl rfl underlying9 rfl ?_
  refine Zw ?_
  refine Z01 (Z02 ?_)
  refine Zk [0, 1, 21] ?_
  (first | refine Z0c rfl ?_ ?_ | refine Z08 rfl ?_ ?_) <;> intro hc0
  ·refine Z00 (Zm ?_)
   refine Z76 (l := 0) rfl rfl underlying9 rfl rfl rfl ZD ZD ZO ZI ?_
   refine Zg (Z01 ?_)
   refine Z0w (nl.take 4000) ?_ (.cons rfl .nil) ?_
   ·exact ⟨H0, by simp; omega⟩
   exact (.cons rfl ZN .nil)
  refine Z0a ?_
  refine Z0w (nl) ?_ (.cons rfl .nil) ?_
  ·exact ⟨H0, ZO⟩
  exact (.cons rfl ZN .nil)
 rintro t w1 ⟨H1, htl⟩
 show RunC P _ _ _ (_ :: _) _
 refine Z03 (Z00 (Zm ?_))
 refine Zc func9 (kindW n hn w1) ?_
 rintro _ w2 ⟨k, s, rfl, hok, hG⟩
 have H2 := hG _ _ _ _ H1
 simp only [Zca, Zna] at H2
 refine Z0X H2 ta23 rfl rfl (fun b3_2 w3 H3 => ?_)
 refine Z0m H3 .head (.zero (.zero .nil)) rfl tz23 rfl rfl ZC (fun w4 H4 => ?_)
 refine Z01 (Z02 ?_)
 refine Zk [1, 5] ?_
 refine Z03 (Z00 ?_)
 refine Zc func20 (newC w4) ?_
 rintro _ w5 ⟨b, rfl, hG⟩
 have H5 := hG _ _ _ _ H4
 simp only [Zca, Zna] at H5
 refine Zg (Z01 (Z02 ?_))
 refine Zk [1, 5, 6] ?_
 refine Z03 (Z03 (Z00 (Zm ?_)))
 refine Z40 ZK rfl rfl rfl rfl ?_
 refine Z0j (s := 28) (v' := .bool false) rfl (by rfl) ?_
 refine Zm ?_
 refine Zc func19 (wakesL21 w5) ?_
 rintro _ w6 ⟨rfl, hG⟩
 have H6 := hG _ _ _ _ H5
 simp only [Zca, Zna] at H6
 first | refine Z38 rfl rfl rfl ?_ | refine Z3v rfl rfl rfl ?_
 refine Z0j (s := 31) (v' := .bool false) rfl (by rfl) ?_
 refine Z0Z rfl rfl rfl rfl ?_
 refine Z01 (Z02 ?_)
 refine Zk [1, 5, 6, 32] ?_
 refine Z0Q rfl rfl ?_
 refine Z0a (Z02 ?_)
 refine Zk [1, 5, 6] ?_
 refine Z03 (Z00 (Zm ?_))
 refine Z16 rfl rfl pl52 ta52 (.one rfl rfl ZR .zero (.one rfl rfl ZR (.succ .zero) (.one rfl rfl ZR (.succ (.succ .zero)) .nil))) ?_
 refine Z0X H6 ta52 rfl rfl (fun b7_2 w7 H7 => ?_)
 refine Z0m H7 .head (.zero (.zero (.zero (.zero .nil)))) rfl tz52 rfl rfl ZC (fun w8 H8 => ?_)
 refine Z01 (Z02 ?_)
 refine Zk [1, 5, 6, 7] ?_
 refine Z03 (Z00 (Zm ?_))
 refine Z5f rfl rfl underlying9 rfl ?_
 refine Zm ?_
 refine v_tobytes H8 rfl rfl underlying9 underlying25 underlying5 rfl (fun v8_3 w9 H9 => ?_)
 obtain ⟨A, c, rfl, hv1⟩ := IB.sl (t := t) (H9.ii mem0)
 refine Z16 rfl rfl pl58 ta58 (.one rfl rfl ZR (.succ .zero) (.one rfl rfl ZR (.succ (.succ (.succ .zero))) .nil)) ?_
 refine Z0X H9 ta58 rfl rfl (fun b8_5 w10 H10 => ?_)
 refine Z0m H10 .head (.zero (.zero (.zero (.zero .nil)))) rfl tz58 rfl rfl ZC (fun w11 H11 => ?_)
 refine Z01 (Z02 ?_)
 refine Zk [1, 5, 6, 7, 8] ?_
 refine Z03 (Z00 (Zm ?_))
 refine Z1b H11 mem2 rfl rfl underlying52 rfl tz52 rfl (.take (.take (.take (.take .nil)))) ?_
 refine Z1b H11 mem5 rfl rfl underlying23 rfl tz23 rfl (.take (.take .nil)) ?_
 refine Z16 rfl rfl pl56 ta56 (.one rfl rfl ZR .zero (.row rfl rfl rfl (.succ (.zero (.zero .nil))) (.one rfl rfl ZR (.succ (.succ (.succ .zero))) .nil))) ?_
 refine Z1b H11 mem0 rfl rfl underlying58 rfl tz58 rfl (.take (.take (.take (.take .nil)))) ?_
 have H12 := St.frontL (l := [_]) H11
 simp only [Zca, Zna] at H12
 have H13 := St.frontL (l := [_, _, _, _]) H12
 simp only [Zca, Zna] at H13
 have H14 := St.frontL (l := [_, _, _, _]) H13
 simp only [Zca, Zna] at H14
 refine Z0I rfl rfl func21 rfl rfl (.cons rfl (.cons rfl (.cons rfl (.cons rfl .nil)))) (ReadC b (List.replicate 41 none) (List.length_replicate ..) 44 34 0 (t.length : Int) k s t [97] false false true A c t ZO w11 (St.rows (τ := cacW b (List.replicate 41 none)) H14) (Z7a (τ := cacW b (List.replicate 41 none)) H14 (A := As.iv _ _) (.head _) (R := fun w1 => IB w1 (.slice A t.length c) t) (fun w1 h => h))) ?_
 rintro _ w15 ⟨x1, vt1, lt1, nu1, e1, o1, L1, rfl, hRd1, hX⟩
 have H15 := hX _ _ _ _ H14
 simp only [cacW, List.cons_append, List.nil_append] at H15
 obtain ⟨rfl, rfl, rfl, rfl, rfl⟩ := hRd1.nul1 hok
 refine Zm ?_
 refine Zx (Zx (Zx (Zx (Zg ?_))))
 refine Zg ?_
 refine Zg ?_
 refine Zg (Z01 (Z02 ?_))
 refine Zk [1, 5, 6, 7, 8, 9, 10, 11, 12] ?_
 refine Z03 (Z00 (Zm ?_))
 refine Z1b H15 mem5 rfl rfl underlying52 rfl tz52 rfl (.take (.take (.take (.take .nil)))) ?_
 refine Z1b H15 mem6 rfl rfl underlying23 rfl tz23 rfl (.take (.take .nil)) ?_
 refine Z16 rfl rfl pl56 ta56 (.one rfl rfl ZR .zero (.row rfl rfl rfl (.succ (.zero (.zero .nil))) .nil)) ?_
 refine Z1b H15 mem4 rfl rfl underlying58 rfl tz58 rfl (.take (.take (.take (.take .nil)))) ?_
 have H16 := St.frontL (l := [_, _, _]) H15
 simp only [Zca, Zna] at H16
 have H17 := St.frontL (l := [_, _, _]) H16
 simp only [Zca, Zna] at H17
 have H18 := St.frontL (l := [_, _, _]) H17
 simp only [Zca, Zna] at H18
 refine Z0I rfl rfl func21 rfl rfl (.cons rfl (.cons rfl (.cons rfl (.cons rfl .nil)))) (ReadC b (List.replicate 41 none) (List.length_replicate ..) 44 34 0 (t.length : Int) k s t [97] false false false A c t ZO w15 (St.rows (τ := cacW b (List.replicate 41 none)) H18) (Z7a (τ := cacW b (List.replicate 41 none)) H18 (A := As.iv _ _) (.head _) (R := fun w1 => IB w1 (.slice A t.length c) t) (fun w1 h => h))) ?_
 rintro _ w19 ⟨x2, vt2, lt2, nu2, e2, o2, L2, rfl, hRd2, hX⟩
 have H19 := hX _ _ _ _ H18
 simp only [cacW, List.cons_append, List.nil_append] at H19
 obtain ⟨rfl, rfl, rfl⟩ := hRd2.nul2 hok
 refine Zm ?_
 refine Zx (Zx (Zx (Zx (Zg ?_))))
 refine Zg ?_
 refine Zg ?_
 refine Zg (Z01 (Z02 ?_))
 refine Zk [1, 5, 6, 7, 8, 9, 10, 11, 12, 15, 16] ?_
 refine Z03 (Z00 ?_)
 refine Z1b H19 mem6 rfl rfl underlying52 rfl tz52 rfl (.take (.take (.take (.take .nil)))) ?_
 refine Z1b H19 mem7 rfl rfl underlying23 rfl tz23 rfl (.take (.take .nil)) ?_
 refine Z16 rfl rfl pl56 ta56 (.one rfl rfl ZR .zero (.row rfl rfl rfl (.succ (.zero (.zero .nil))) (.one rfl rfl ZR (.succ (.succ (.succ .zero))) .nil))) ?_
 refine Z1b H19 mem5 rfl rfl underlying58 rfl tz58 rfl (.take (.take (.take (.take .nil)))) ?_
 refine Zc func25 (NeedC 44 34 0 (t.length : Int) k s t [97] false false true A c t ZO w19 (H19.ii mem3)) ?_
 rintro _ w20 ⟨o, rfl, hNe, hG⟩
 have H20 := hG _ _ _ _ H19
 simp only [Zca, Zna] at H20
 obtain rfl := hNe.nul
 refine Zm ?_
 refine Zx (Zx (Zg ?_))
 refine Zg (Z01 (Z02 ?_))
 refine Zk [1, 5, 6, 7, 8, 9, 10, 11, 12, 15, 16, 18] ?_
 refine Z03 (Z03 (Z00 (Zm ?_)))
 refine Z13 rfl rfl func15 rfl rfl (.cons rfl .nil) (numL21 _ _) ?_
 refine Zo ?_
 refine Z0j (s := 72) (v' := .bool false) rfl (by rfl) ?_
 refine Zm ?_
 refine Zm ?_
 first | refine Z38 rfl rfl rfl ?_ | refine Z3v rfl rfl rfl ?_
 refine Z0j (s := 75) (v' := .bool false) rfl (by rfl) ?_
 refine Z0Z rfl rfl rfl rfl ?_
 refine Zm ?_
 refine Zm ?_
 refine Zo ?_
 refine Z0j (s := 79) (v' := .bool false) rfl (by rfl) ?_
 refine Z0Z rfl rfl rfl rfl ?_
 refine Zm ?_
 refine Zm ?_
 refine Z4W rfl rfl underlying25 rfl (by first | exact H20.io mem0 | exact H20.ibl mem1 | exact H20.ii mem3 | exact H20.io mem4 | exact H20.ibl mem5 | exact H20.ibl mem6 | exact H20.ibl mem7 | assumption) ?_
 refine Zo ?_
 refine Z0j (s := 84) (v' := .bool false) rfl (by rfl) ?_
 refine Z0Z rfl rfl rfl rfl ?_
 refine Zm ?_
 refine Zm ?_
 refine Z13 rfl rfl func15 rfl rfl (.cons rfl .nil) (numL21 _ _) ?_
 refine Zo ?_
 refine Z0j (s := 89) (v' := .bool false) rfl (by rfl) ?_
 refine Z0Z rfl rfl rfl rfl ?_
 refine Zm ?_
 refine Zm ?_
 refine Z0j (s := 92) (v' := .bool false) rfl (by rfl) ?_
 refine Z0Z rfl rfl rfl rfl ?_
 refine Zm ?_
 refine Zm ?_
 refine Z0j (s := 95) (v' := .bool false) rfl (by rfl) ?_
 refine Z0Z rfl rfl rfl rfl ?_
 refine Zm ?_
 refine Zm ?_
 refine Z13 rfl rfl func28 rfl rfl (.cons rfl .nil) (HeldC b (List.replicate 41 none) (List.length_replicate ..) _ (H20.ok mem1) (H20.ok mem2)) ?_
 refine Zo ?_
 refine Z0j (s := 100) (v' := .bool false) rfl (by rw [heldZ]; rfl) ?_
 refine Z0Z rfl rfl rfl rfl ?_
 refine Z01 (Z02 ?_)
 refine Zk [1, 5, 6, 7, 8, 101] ?_
 refine Z0Q rfl rfl ?_
 refine Z0a (Z02 ?_)
 refine Zk [1, 5, 6, 7, 8] ?_
 refine Z03 (Z00 (Z09 fo58_2 rfl rfl rfl ?_))
 refine Z0s H20 (.tail (.tail (.tail (.tail (.tail .head))))) (by repeat (first | exact .zero | apply Z1F.succ)) rfl tz4 rfl rfl ZR (fun w21 H21 => ?_)
 refine Z01 (Z02 ?_)
 refine Zk [1, 5, 6, 7, 8] ?_
 refine Z03 (Z00 (Zm ?_))
 refine Z1b H21 mem6 rfl rfl underlying52 rfl tz52 rfl (.take (.take (.take (.take .nil)))) ?_
 refine Z1b H21 mem7 rfl rfl underlying23 rfl tz23 rfl (.take (.take .nil)) ?_
 refine Z16 rfl rfl pl56 ta56 (.one rfl rfl ZR .zero (.row rfl rfl rfl (.succ (.zero (.zero .nil))) (.one rfl rfl ZR (.succ (.succ (.succ .zero))) .nil))) ?_
 refine Z1b H21 mem5 rfl rfl underlying58 rfl tz58 rfl (.take (.take (.take (.take .nil)))) ?_
 have H22 := St.frontL (l := [_, _, _]) H21
 simp only [Zca, Zna] at H22
 have H23 := St.frontL (l := [_, _, _]) H22
 simp only [Zca, Zna] at H23
 have H24 := St.frontL (l := [_, _, _]) H23
 simp only [Zca, Zna] at H24
 refine Z0I rfl rfl func21 rfl rfl (.cons rfl (.cons rfl (.cons rfl (.cons rfl .nil)))) (ReadC b (List.replicate 41 none) (List.length_replicate ..) 44 34 0 (t.length : Int) k s t [97] false true true A c t ZO w21 (St.rows (τ := cacW b (List.replicate 41 none)) H24) (Z7a (τ := cacW b (List.replicate 41 none)) H24 (A := As.iv _ _) (.head _) (R := fun w1 => IB w1 (.slice A t.length c) t) (fun w1 h => h))) ?_
 rintro _ w25 ⟨x3, vt3, lt3, nu3, e3, o3, L3, rfl, hRd3, hX⟩
 have H25 := hX _ _ _ _ H24
 simp only [cacW, List.cons_append, List.nil_append] at H25
 obtain ⟨rfl, hq3⟩ := hRd3.quo hok htl
 refine Zm ?_
 refine Zx (Zx (Zx (Zx (Zg ?_))))
 refine Zg ?_
 refine Zg (Z01 (Z02 ?_))
 refine Zk [1, 5, 10, 11, 12] ?_
 refine Z03 (Z03 (Z00 (Zm ?_)))
 refine Z0j (s := 114) (v' := .bool false) rfl (by rfl) ?_
 refine Z01 (Z02 ?_)
 refine Zk [1, 5, 10, 12, 114] ?_
 refine Z0Q rfl rfl ?_
 refine Z0a (Z02 ?_)
 refine Zk [1, 5, 10, 12] ?_
 refine Z03 (Z00 ?_)
 refine Z1b H25 mem8 rfl rfl underlying23 rfl tz23 rfl (.take (.take .nil)) ?_
 refine Zc func22 (wordedW k s w25) ?_
 rintro _ w26 ⟨rfl, hG⟩
 have H26 := hG _ _ _ _ H25
 simp only [Zca, Zna] at H26
 first | refine Z38 rfl rfl rfl ?_ | refine Z3v rfl rfl rfl ?_
 refine Zm ?_
 apply l_or 9 [] rfl rfl (.cons rfl .nil) rfl rfl (fun _ => rfl) rfl rfl rfl
 ·intro hg18_4
  refine Zm ?_
  refine Z13 rfl rfl func15 rfl rfl (.cons rfl .nil) (numL21 _ _) ?_
  refine Ze ?_
  refine Zm ?_
  apply Z47 4 [118] rfl rfl (.cons rfl (.cons rfl .nil)) rfl rfl (fun _ => rfl) rfl rfl rfl
  ·intro hg18_8
   refine Zm ?_
   refine Z6k rfl rfl underlying25 underlying5 underlying9 rfl (by first | exact H26.io mem0 | exact H26.ibl mem1 | exact H26.ii mem3 | exact H26.io mem4 | exact H26.io mem5 | exact H26.ibl mem6 | exact H26.ibl mem7 | exact H26.ibl mem8 | assumption) ?_
   refine Zm ?_
   refine Z5W rfl rfl rfl rfl ?_
   refine Z01 ?_
   exact Z0O rfl (.cons rfl (ZT hg18_8) (.cons rfl rfl .nil))
  refine Z01 ?_
  exact Z0O rfl (.cons rfl (ZF hg18_4) .nil)
 refine Zg (Z01 (Z02 ?_))
 refine Zk [4] ?_
 refine Z0i ?_
 refine Z0e results7 rfl ?_
 refine ⟨_, rfl, ?_⟩
 have H35 := St.del .head (St.del (.tail .head) (St.del (.tail (.tail .head)) (St.del (.tail (.tail (.tail .head))) (St.del (.tail (.tail (.tail (.tail .head)))) (St.del (.tail (.tail (.tail (.tail (.tail .head))))) (St.del (.tail (.tail (.tail (.tail (.tail (.tail .head)))))) (St.del (.tail (.tail (.tail (.tail (.tail (.tail (.tail .head))))))) (St.del (.tail (.tail (.tail (.tail (.tail (.tail (.tail (.tail .head)))))))) H26))))))))
 refine ⟨congrArg Value.bool (decide_eq_true ?_), H35.grows⟩
 by_cases h15 : k = 15 ∨ k = 16
 ·exact .inr (hq3 h15)
 exact .inl h15
end Go.Proofs.YtgjgahmhoflgcaaGreatDoor.W
