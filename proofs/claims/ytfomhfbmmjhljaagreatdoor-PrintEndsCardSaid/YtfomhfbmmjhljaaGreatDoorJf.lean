/- walks of print.begun, asked -/
import Derived.Test.YtfomhfbmmjhljaaGreatDoorLp
import Derived.Test.YtfomhfbmmjhljaaGreatDoorJa
set_option linter.unusedVariables false
set_option linter.unusedSimpArgs false
set_option maxRecDepth 10000
namespace Go.Proofs.YtfomhfbmmjhljaaGreatDoor.W
open Go.Vc Go.RowKit _root_.Go.Proofs.Tryz
def As.triv : As := ⟨fun _ => False, fun _ => True, fun _ _ _ h => h⟩
theorem St.triv {w0 w : World} {B : Nat} {M : Nat → Prop} {σ : List As} (hw : St w0 B M σ w) : St w0 B M (As.triv :: σ) w := ⟨hw.ext, hw.base, trivial, fun _ h => h.elim, fun _ _ _ h => h.elim, hw.sep⟩
def BegR (k b : Int) (p R : Value) (over : Bool) (e : Int) (A1 A2 : As) : Prop := e = (clsF k b).2 ∧ (e = 0 → ∃ d lb vt t, kd k = some d ∧ b < 2 * d.S ∧ p = .pointer (some ⟨lb, 0, none⟩) ∧ A1 = As.blk lb 72 [vt] ∧ A2 = As.rb 5 vt t ∧ t.length ≤ 10 ∧
 (over = true → d.I ≤ b % d.S ∧ t = wdT d b []) ∧ (over = false → b % d.S < d.I ∧ t = sgT d b ∧ R = .agg #[.bool (decide (d.S ≤ b)), .int .u64 (splM d (b % d.S)), .int .i64 (splE d (b % d.S))]))
theorem infsK {k : Int} {d : Kd} (hk : kd k = some d) (w : World) : Z0h P 31 [.int .i64 k, .bool false] w fun r w' => r = .tuple #[.int .u64 d.I, .int .i64 0] ∧ Grow w w' [] := by
 refine (infsB k false w).mono ?_
 rintro r w' ⟨rfl, hG⟩
 rw [hk]
 exact ⟨rfl, hG⟩
theorem begunP (k b : Int) (hb : 0 ≤ b ∧ b ≤ 18446744073709551615) (w : World) :
  Z0h P 15 [.int .i64 k, .int .u64 b] w fun r w' => ∃ p R over e A1 A2, r = .tuple #[p, R, .bool over, .int .i64 e] ∧ BegR k b p R over e A1 A2 ∧ (∃ n1 n2 n3, R = .agg #[.bool n1, .int .u64 n2, .int .i64 n3]) ∧ Grow w w' [A1, A2] := by
 refine Z0n func15 rfl ntmps15 rfl ?_
 have H0 := St.start w
 refine Z03 (Z00 (Zg ?_))
 refine Z0z H0 ta68 rfl rfl (fun b0_1 w1 H1 => ?_)
 refine Zg (Zg (Z02 (Z01 (Z03 (Z00 (Zm (Zm ?_)))))))
 refine Zc func10 (classB k b hb w1) ?_
 rintro _ w2 ⟨rfl, hG⟩
 have H2 := hG _ _ _ _ H1
 simp only [Zca, Zna] at H2
 refine Zm ?_
 refine Zx (Zx (Zg (Zg (Z02 (Z01 ?_)))))
 refine Zk [0, 1, 5, 7, 8] ?_
 refine Z03 (Z03 (Z00 (Zm ?_)))
 refine Zo ?_
 refine Z02 (Z01 ?_)
 (first | refine Z0a rfl ?_ ?_ | refine Z06 rfl ?_ ?_) <;> intro hc0
 ·refine Z03 ?_
  have H3 := H2.drewn
  refine Z1t (n := 6) [Zz,Zz,Zz,Zz,Zz,Zz] (fun wS => (As.blk b0_1 68 [.bool false, .int .u64 0, .int .i64 0]).ok wS) ZK rfl rfl ?_
  apply Zu (L' := [Zy,Zz,Zz,Zz,Zz,Zz]) 0 (H3.ok mem0)
  ·intro wS sS
   refine Z0b (Z0R sS) mem0 rfl rfl underlying68 rfl tz68 rfl (.take (.take (.take .nil))) ?_
   refine Z02 ?_
   exact Z0d rfl
  apply Zu (L' := [Zy,Zy,Zz,Zz,Zz,Zz]) 1 (H3.ok mem0)
  ·intro wS sS
   refine Zm (Z02 ?_)
   exact Z0d rfl
  apply Zu (L' := [Zy,Zy,Zy,Zz,Zz,Zz]) 2 (H3.ok mem0)
  ·intro wS sS
   refine Zg (Z02 ?_)
   exact Z0d rfl
  refine Z0O (L' := [Zy,Zy,Zy,Zy,Zz,Zz]) 3 ZK rfl rfl ?_
  refine Z09 H3 .head (.zero (.zero (.zero .nil))) rfl tz68 rfl rfl ZC (fun w4 H4 => ?_)
  refine Z02 ?_
  refine Z0F (H4.ok mem0) ?_
  apply Zu (L' := [Zy,Zy,Zy,Zy,Zy,Zz]) 4 (H4.ok mem0)
  ·intro wS sS
   refine Zg (Z02 ?_)
   exact Z0d rfl
  apply Zu (L' := [Zy,Zy,Zy,Zy,Zy,Zy]) 5 (H4.ok mem0)
  ·intro wS sS
   refine Zg (Z02 ?_)
   exact Z0d rfl
  refine Z0W ZK ?_
  refine Z01 ?_
  refine Zk [4, 5, 6, 7] ?_
  refine Z0f ?_
  refine Z05 ?_
  refine Z0k results15 (.tmp rfl (.cell rfl (Z0g H4 mem0 underlying68 rfl tz68 (.take (.take (.take .nil)))) (.tmp rfl (.tmp rfl .nil)))) rfl ?_
  refine ⟨_, rfl, ?_⟩
  have H5 := St.del .head H4
  exact ⟨_, _, _, _, As.triv, As.triv, rfl, ⟨rfl, fun h => absurd h hc0⟩, ⟨_, _, _, rfl⟩, (St.triv (St.triv H5)).grows⟩
 have hc02 : (clsF k b).2 = 0 := by omega
 obtain ⟨d, hk, hltS, hcl⟩ := clsF_ok hb hc02
 have hbd := d.bd
 have hms := Z2L d ⟨hb.1, hltS⟩
 have hnan : cls d b = 5 ↔ d.I < b % d.S := by unfold cls; (repeat' split) <;> omega
 have hinf : cls d b = 4 ↔ b % d.S = d.I := by unfold cls; (repeat' split) <;> omega
 refine Z0c (Z01 (Z03 (Z00 ?_)))
 refine Z0D rfl rfl pl72 ta72 .nil ?_
 refine Z1z H2 rfl rfl rfl (fun b4_1 w6 H6 => ?_)
 refine Zg (Z02 (Z01 ?_))
 refine Zk [0, 1, 4, 5, 8] ?_
 refine Z03 (Z03 (Z00 ?_))
 have H7 := H6.nil 5
 refine Zm ?_
 refine Ze ?_
 refine Z02 (Z01 ?_)
 (first | refine Z0a rfl ?_ ?_ | refine Z06 rfl ?_ ?_) <;> intro hc1
 ·refine Z03 (Z00 (Zm ?_))
  refine Z1D H7 rfl rfl underlying26 ti5 rfl (.cons rfl ZR (.cons rfl ZR (.cons rfl ZR .nil))) rfl rfl rfl (fun b6_1 w8 H8 => ?_)
  refine l_mark H8 rfl rfl underlying26 underlying5 rfl rfl (fun v6_2 w9 H9 => ?_)
  have H10 := St.frontL (l := [_]) H9
  simp only [Zca, Zna] at H10
  have H11 := St.frontL (l := [_, _]) H10
  simp only [Zca, Zna] at H11
  refine Z0J rfl rfl func16 rfl rfl (.cons rfl (.cons rfl .nil)) (putP b4_1 (.slice none 0 0) ([]) (by first | (simp; done) | omega) v6_2 ([110, 97, 110]) (by simp) w9 (St.rows (τ := [As.blk b4_1 72 [(.slice none 0 0)], As.rb 5 (.slice none 0 0) ([])]) H11) (St.argR (τ := [As.blk b4_1 72 [(.slice none 0 0)], As.rb 5 (.slice none 0 0) ([])]) H11 (A := As.iv v6_2 [.int .u8 110, .int .u8 97, .int .u8 110]) (.head _) (R := fun w1 => IB w1 _ ([110, 97, 110])) (fun w1 h => h))) ?_
  rintro _ w12 ⟨v1, rfl, hX⟩
  have H12 := hX _ _ _ _ H11
  simp only [Zca, Zna] at H12
  refine Z02 (Z01 ?_)
  refine Zk [4, 5] ?_
  refine Z03 ?_
  have H13 := H12.drewn
  refine Z1t (n := 6) [Zz,Zz,Zz,Zz,Zz,Zz] (fun wS => (As.blk b0_1 68 [.bool false, .int .u64 0, .int .i64 0]).ok wS) ZK rfl rfl ?_
  apply Zu (L' := [Zy,Zz,Zz,Zz,Zz,Zz]) 0 (H13.ok mem3)
  ·intro wS sS
   refine Zm (Z02 ?_)
   exact Z0d rfl
  apply Zu (L' := [Zy,Zy,Zz,Zz,Zz,Zz]) 1 (H13.ok mem3)
  ·intro wS sS
   refine Z0b (Z0R sS) mem0 rfl rfl underlying68 rfl tz68 rfl (.take (.take (.take .nil))) ?_
   refine Z02 ?_
   exact Z0d rfl
  apply Zu (L' := [Zy,Zy,Zy,Zz,Zz,Zz]) 2 (H13.ok mem3)
  ·intro wS sS
   refine Zg (Z02 ?_)
   exact Z0d rfl
  refine Z0O (L' := [Zy,Zy,Zy,Zy,Zz,Zz]) 3 ZK rfl rfl ?_
  refine Z09 H13 (.tail (.tail (.tail .head))) (.zero (.zero (.zero .nil))) rfl tz68 rfl rfl ZC (fun w14 H14 => ?_)
  refine Z02 ?_
  refine Z0F (H14.ok mem3) ?_
  apply Zu (L' := [Zy,Zy,Zy,Zy,Zy,Zz]) 4 (H14.ok mem3)
  ·intro wS sS
   refine Zg (Z02 ?_)
   exact Z0d rfl
  apply Zu (L' := [Zy,Zy,Zy,Zy,Zy,Zy]) 5 (H14.ok mem3)
  ·intro wS sS
   refine Zg (Z02 ?_)
   exact Z0d rfl
  refine Z0W ZK ?_
  refine Z01 ?_
  refine Z0f ?_
  refine Z05 ?_
  refine Z0k results15 (.tmp rfl (.cell rfl (Z0g H14 mem3 underlying68 rfl tz68 (.take (.take (.take .nil)))) (.tmp rfl (.tmp rfl .nil)))) rfl ?_
  refine ⟨_, rfl, ?_⟩
  have H18 := St.del (.tail (.tail .head)) (St.del (.tail (.tail (.tail .head))) (St.front1 (St.front1 H14)))
  exact ⟨_, _, true, 0, _, _, rfl, ⟨hc02.symm, fun _ => ⟨d, b4_1, v1, _, hk, hltS, rfl, rfl, rfl, by simp, fun _ => ⟨by rw [hcl] at hc1; omega, by unfold wdT; rw [if_pos (by rw [hcl] at hc1; omega)]⟩, fun h => by cases h⟩⟩, ⟨_, _, _, rfl⟩, H18.grows⟩
 refine Z0c (Z01 ?_)
 refine Zk [0, 1, 4, 5, 8] ?_
 refine Z03 (Z00 (Zm ?_))
 refine Zc func31 (infsK hk w6) ?_
 rintro _ w19 ⟨rfl, hG⟩
 have H19 := hG _ _ _ _ H7
 simp only [Zca, Zna] at H19
 refine Zm ?_
 refine Zx (Zx (Zg (Zg (Z02 (Z01 ?_)))))
 refine Zk [0, 1, 4, 5, 8, 9] ?_
 refine Z12 (ι := Value × List UInt8) (fun (z0 : Value × List UInt8) (w' : World) => match z0 with | ⟨vt1, t1⟩ => St w w.heap.size Z0G ([As.blk b4_1 72 [vt1], As.rb 5 vt1 t1, As.blk b0_1 68 [.bool false, .int .u64 0, .int .i64 0]]) w' ∧ t1 = sgT d b) (fun (z0 : Value × List UInt8) => match z0 with | ⟨vt1, t1⟩ => []) [0, 1, 4, 5, 8] (.cons rfl (.cons rfl (.cons rfl (.cons rfl (.cons rfl .nil))))) ?_ ?_
 ·refine Z03 (Z00 (Zm (Zm ?_)))
  refine Zw ?_
  refine Z02 (Z01 ?_)
  refine Zk [0, 1, 4, 5, 8, 38] ?_
  (first | refine Z0a rfl ?_ ?_ | refine Z06 rfl ?_ ?_) <;> intro hc2
  ·refine Z00 (Zm ?_)
   refine Z1D H19 rfl rfl underlying26 ti5 rfl (.cons rfl ZR .nil) rfl rfl rfl (fun b10_1 w20 H20 => ?_)
   have H21 := St.frontL (l := [_]) H20
   simp only [Zca, Zna] at H21
   have H22 := St.frontL (l := [_, _]) H21
   simp only [Zca, Zna] at H22
   refine Z0J rfl rfl func16 rfl rfl (.cons rfl (.cons rfl .nil)) (putP b4_1 (.slice none 0 0) ([]) (by first | (simp; done) | omega) _ ([45]) (by simp) w20 (St.rows (τ := [As.blk b4_1 72 [(.slice none 0 0)], As.rb 5 (.slice none 0 0) ([])]) H22) (St.argR (τ := [As.blk b4_1 72 [(.slice none 0 0)], As.rb 5 (.slice none 0 0) ([])]) H22 (A := As.blk b10_1 5 [.int .u8 45]) (.head _) (R := fun w1 => IB w1 _ ([45])) (fun w1 h => Z3O h))) ?_
   rintro _ w23 ⟨v1, rfl, hX⟩
   have H23 := hX _ _ _ _ H22
   simp only [Zca, Zna] at H23
   refine Z02 ?_
   have H24 := St.frontL (l := [_]) H23
   simp only [Zca, Zna] at H24
   have H25 := St.frontL (l := [_]) H24
   simp only [Zca, Zna] at H25
   have H26 := St.del (.tail (.tail .head)) H25
   refine Z0v (v1, [45]) ?_ (.cons rfl (.cons rfl (.cons rfl (.cons rfl (.cons rfl .nil))))) ?_
   ·exact ⟨H26, by unfold sgT; rw [if_pos (by rw [hcl] at hc1; omega)]⟩
   exact .nil
  refine Z0c ?_
  have H27 := St.frontL (l := [_]) H19
  simp only [Zca, Zna] at H27
  refine Z0v ((.slice none 0 0), []) ?_ (.cons rfl (.cons rfl (.cons rfl (.cons rfl (.cons rfl .nil))))) ?_
  ·exact ⟨H27, by unfold sgT; rw [if_neg (by rw [hcl] at hc1; omega)]⟩
  exact .nil
 rintro ⟨vt1, t1⟩ w28 ⟨H28, ht1⟩
 have hl1 : t1.length ≤ 1 := by rw [ht1]; unfold sgT; split <;> simp
 refine Z03 (Z03 (Z00 (Zm ?_)))
 refine Ze ?_
 refine Z02 (Z01 ?_)
 (first | refine Z0a rfl ?_ ?_ | refine Z06 rfl ?_ ?_) <;> intro hc3
 ·refine Z03 (Z00 (Zm ?_))
  refine Z1D H28 rfl rfl underlying26 ti5 rfl (.cons rfl ZR (.cons rfl ZR (.cons rfl ZR .nil))) rfl rfl rfl (fun b12_1 w29 H29 => ?_)
  refine l_mark H29 rfl rfl underlying26 underlying5 rfl rfl (fun v12_2 w30 H30 => ?_)
  have H31 := St.frontL (l := [_, _]) H30
  simp only [Zca, Zna] at H31
  have H32 := St.frontL (l := [_, _]) H31
  simp only [Zca, Zna] at H32
  refine Z0J rfl rfl func16 rfl rfl (.cons rfl (.cons rfl .nil)) (putP b4_1 vt1 (t1) (by first | (simp; done) | omega) v12_2 ([105, 110, 102]) (by simp) w30 (St.rows (τ := [As.blk b4_1 72 [vt1], As.rb 5 vt1 (t1)]) H32) (St.argR (τ := [As.blk b4_1 72 [vt1], As.rb 5 vt1 (t1)]) H32 (A := As.iv v12_2 [.int .u8 105, .int .u8 110, .int .u8 102]) (.head _) (R := fun w1 => IB w1 _ ([105, 110, 102])) (fun w1 h => h))) ?_
  rintro _ w33 ⟨v2, rfl, hX⟩
  have H33 := hX _ _ _ _ H32
  simp only [Zca, Zna] at H33
  refine Z02 (Z01 ?_)
  refine Zk [4, 5] ?_
  refine Z03 ?_
  have H34 := H33.drewn
  refine Z1t (n := 6) [Zz,Zz,Zz,Zz,Zz,Zz] (fun wS => (As.blk b0_1 68 [.bool false, .int .u64 0, .int .i64 0]).ok wS) ZK rfl rfl ?_
  apply Zu (L' := [Zy,Zz,Zz,Zz,Zz,Zz]) 0 (H34.ok mem3)
  ·intro wS sS
   refine Zm (Z02 ?_)
   exact Z0d rfl
  apply Zu (L' := [Zy,Zy,Zz,Zz,Zz,Zz]) 1 (H34.ok mem3)
  ·intro wS sS
   refine Z0b (Z0R sS) mem0 rfl rfl underlying68 rfl tz68 rfl (.take (.take (.take .nil))) ?_
   refine Z02 ?_
   exact Z0d rfl
  apply Zu (L' := [Zy,Zy,Zy,Zz,Zz,Zz]) 2 (H34.ok mem3)
  ·intro wS sS
   refine Zg (Z02 ?_)
   exact Z0d rfl
  refine Z0O (L' := [Zy,Zy,Zy,Zy,Zz,Zz]) 3 ZK rfl rfl ?_
  refine Z09 H34 (.tail (.tail (.tail .head))) (.zero (.zero (.zero .nil))) rfl tz68 rfl rfl ZC (fun w35 H35 => ?_)
  refine Z02 ?_
  refine Z0F (H35.ok mem3) ?_
  apply Zu (L' := [Zy,Zy,Zy,Zy,Zy,Zz]) 4 (H35.ok mem3)
  ·intro wS sS
   refine Zg (Z02 ?_)
   exact Z0d rfl
  apply Zu (L' := [Zy,Zy,Zy,Zy,Zy,Zy]) 5 (H35.ok mem3)
  ·intro wS sS
   refine Zg (Z02 ?_)
   exact Z0d rfl
  refine Z0W ZK ?_
  refine Z01 ?_
  refine Z0f ?_
  refine Z05 ?_
  refine Z0k results15 (.tmp rfl (.cell rfl (Z0g H35 mem3 underlying68 rfl tz68 (.take (.take (.take .nil)))) (.tmp rfl (.tmp rfl .nil)))) rfl ?_
  refine ⟨_, rfl, ?_⟩
  have H39 := St.del (.tail (.tail .head)) (St.del (.tail (.tail (.tail .head))) (St.front1 (St.front1 H35)))
  exact ⟨_, _, true, 0, _, _, rfl, ⟨hc02.symm, fun _ => ⟨d, b4_1, v2, _, hk, hltS, rfl, rfl, rfl, by first | (simp; done) | (simp; omega), fun _ => ⟨by rw [hcl] at hc3; omega, by unfold wdT; rw [hcl] at hc1 hc3; rw [if_neg ZO, if_pos ZO, ht1]⟩, fun h => by cases h⟩⟩, ⟨_, _, _, rfl⟩, H39.grows⟩
 refine Z0c (Z01 ?_)
 refine Zk [0, 1, 4, 5] ?_
 refine Z03 (Z00 ?_)
 have hfin : b % d.S < d.I := by rw [hcl] at hc1 hc3; omega
 have hspl := spl_any hk ⟨hb.1, hltS⟩ hfin
 refine Zm (Zm ?_)
 refine Zc func32 (splitB k b hb w28) ?_
 rintro _ w40 ⟨rfl, hG⟩
 have H40 := hG _ _ _ _ H28
 simp only [Zca, Zna] at H40
 rw [hspl]
 refine Zm ?_
 refine Zx (Zx ?_)
 refine Z09 H40 (.tail (.tail .head)) (.zero (.zero (.zero .nil))) rfl tz68 rfl rfl ZC (fun w41 H41 => ?_)
 refine Zg (Z02 (Z01 (Z03 ?_)))
 have H42 := H41.drewn
 refine Z1t (n := 7) [Zz,Zz,Zz,Zz,Zz,Zz,Zz] (fun wS => (As.blk b0_1 68 [.bool (decide (d.S ≤ b)), .int .u64 (splM d (b % d.S)), .int .i64 (splE d (b % d.S))]).ok wS) ZK rfl rfl ?_
 apply Zu (L' := [Zy,Zz,Zz,Zz,Zz,Zz,Zz]) 0 (H42.ok mem2)
 ·intro wS sS
  refine Zm (Z02 ?_)
  exact Z0d rfl
 apply Zu (L' := [Zy,Zy,Zz,Zz,Zz,Zz,Zz]) 1 (H42.ok mem2)
 ·intro wS sS
  refine Z0b (Z0R sS) mem0 rfl rfl underlying68 rfl tz68 rfl (.take (.take (.take .nil))) ?_
  refine Z02 ?_
  exact Z0d rfl
 apply Zu (L' := [Zy,Zy,Zy,Zz,Zz,Zz,Zz]) 2 (H42.ok mem2)
 ·intro wS sS
  refine Zm (Z02 ?_)
  exact Z0d rfl
 apply Zu (L' := [Zy,Zy,Zy,Zy,Zz,Zz,Zz]) 3 (H42.ok mem2)
 ·intro wS sS
  refine Zg (Z02 ?_)
  exact Z0d rfl
 refine Z0O (L' := [Zy,Zy,Zy,Zy,Zy,Zz,Zz]) 4 ZK rfl rfl ?_
 refine Z09 H42 (.tail (.tail .head)) (.zero (.zero (.zero .nil))) rfl tz68 rfl rfl ZC (fun w43 H43 => ?_)
 refine Z02 ?_
 refine Z0F (H43.ok mem2) ?_
 apply Zu (L' := [Zy,Zy,Zy,Zy,Zy,Zy,Zz]) 5 (H43.ok mem2)
 ·intro wS sS
  refine Zg (Z02 ?_)
  exact Z0d rfl
 apply Zu (L' := [Zy,Zy,Zy,Zy,Zy,Zy,Zy]) 6 (H43.ok mem2)
 ·intro wS sS
  refine Zg (Z02 ?_)
  exact Z0d rfl
 refine Z0W ZK ?_
 refine Z01 ?_
 refine Zk [4, 5, 6, 7] ?_
 refine Z0f ?_
 refine Z0k results15 (.tmp rfl (.cell rfl (Z0g H43 mem2 underlying68 rfl tz68 (.take (.take (.take .nil)))) (.tmp rfl (.tmp rfl .nil)))) rfl ?_
 refine ⟨_, rfl, ?_⟩
 have H46 := St.del (.tail (.tail .head)) (St.front1 (St.front1 H43))
 exact ⟨_, _, false, 0, _, _, rfl, ⟨hc02.symm, fun _ => ⟨d, b4_1, vt1, _, hk, hltS, rfl, rfl, rfl, ZO, (fun h => by cases h), fun _ => ⟨hfin, ht1, rfl⟩⟩⟩, ⟨_, _, _, rfl⟩, H46.grows⟩
def askE (k b n : Int) : Int := if (clsF k b).2 = 0 then (if n < 0 ∨ 40 < n then 110 else 0) else (clsF k b).2
def AskRp (k b n : Int) (p R : Value) (over : Bool) (e : Int) (A1 A2 : As) : Prop := e = askE k b n ∧ (e = 0 → 0 ≤ n ∧ n ≤ 40 ∧ BegR k b p R over 0 A1 A2)
theorem begunQ (k b : Int) (hb : 0 ≤ b ∧ b ≤ 18446744073709551615) (w : World) : Z0h P 15 [.int .i64 k, .int .u64 b] w fun r w' => ∃ p n1 n2 n3 over e A1 A2, r = .tuple #[p, .agg #[.bool n1, .int .u64 n2, .int .i64 n3], .bool over, .int .i64 e] ∧ BegR k b p (.agg #[.bool n1, .int .u64 n2, .int .i64 n3]) over e A1 A2 ∧ Grow w w' [A1, A2] := by
 refine (begunP k b hb w).mono ?_
 rintro r w' ⟨p, R, over, e, A1, A2, rfl, hB, ⟨n1, n2, n3, rfl⟩, hG⟩
 exact ⟨_, _, _, _, _, _, _, _, rfl, hB, hG⟩
theorem askedP (k b : Int) (hb : 0 ≤ b ∧ b ≤ 18446744073709551615) (n : Int) (hn : -9223372036854775808 ≤ n ∧ n ≤ 9223372036854775807) (w : World) :
  Z0h P 28 [.int .i64 k, .int .u64 b, .int .i64 n] w fun r w' => ∃ p n1 n2 n3 over e A1 A2, r = .tuple #[p, .agg #[.bool n1, .int .u64 n2, .int .i64 n3], .bool over, .int .i64 e] ∧ AskRp k b n p (.agg #[.bool n1, .int .u64 n2, .int .i64 n3]) over e A1 A2 ∧ Grow w w' [A1, A2] := by
 refine Z0n func28 rfl ntmps28 rfl ?_
 have H0 := St.start w
 refine Z03 (Z00 (Zg ?_))
 refine Z0z H0 ta68 rfl rfl (fun b0_1 w1 H1 => ?_)
 refine Zg (Zg (Z02 (Z01 (Z03 (Z00 (Zm (Zm ?_)))))))
 refine Zc func15 (begunQ k b hb w1) ?_
 rintro _ w2 ⟨p, n1, n2, n3, over, e, A1, A2, rfl, hB, hG⟩
 have H2 := hG _ _ _ _ H1
 simp only [Zca, Zna] at H2
 refine Zm ?_
 refine Zx (Zx (Zx (Zx (Zg ?_))))
 refine Z09 H2 (.tail (.tail .head)) (.zero (.zero (.zero .nil))) rfl tz68 rfl rfl ZC (fun w3 H3 => ?_)
 refine Zg (Zg (Z02 (Z01 ?_)))
 refine Zk [2, 6, 7, 8, 9] ?_
 refine Z12 (ι := Int) (fun (e2 : Int) (w' : World) => St w w.heap.size Z0G ([A1, A2, As.blk b0_1 68 [.bool n1, .int .u64 n2, .int .i64 n3]]) w' ∧ AskRp k b n p (.agg #[.bool n1, .int .u64 n2, .int .i64 n3]) over e2 A1 A2) (fun (e2 : Int) => [(9, .int .i64 e2)]) [6, 7, 8] (.cons rfl (.cons rfl (.cons rfl .nil))) ?_ ?_
 ·refine Z03 (Z00 (Zm ?_))
  refine Ze ?_
  refine Zm ?_
  apply Z1a (q := n < 0 ∨ 40 < n) 6 [6, 7, 8, 9] rfl rfl (.cons rfl (.cons rfl (.cons rfl (.cons rfl (.cons rfl .nil))))) rfl rfl (fun _ => rfl) rfl rfl rfl
  ·intro hg2_3
   refine Zm ?_
   refine Zl ?_
   refine Zm ?_
   apply l_or (q := 40 < n) 2 [6, 7, 8, 9, 20] rfl rfl (.cons rfl (.cons rfl (.cons rfl (.cons rfl (.cons rfl (.cons rfl .nil)))))) rfl rfl (fun _ => rfl) rfl rfl rfl
   ·intro hg2_6
    refine Zm ?_
    refine Zw ?_
    refine Z02 ?_
    exact Z0o rfl (.cons rfl (ZF hg2_6) (.cons rfl rfl (.cons rfl rfl (.cons rfl rfl (.cons rfl rfl (.cons rfl rfl .nil))))))
    all_goals infer_instance
   refine Z02 ?_
   exact Z0o rfl (.cons rfl (ZT hg2_3) (.cons rfl rfl (.cons rfl rfl (.cons rfl rfl (.cons rfl rfl .nil)))))
   all_goals infer_instance
  refine Z02 (Z01 ?_)
  (first | refine Z0a rfl ?_ ?_ | refine Z06 rfl ?_ ?_) <;> intro hc0
  ·refine Z00 (Zg (Z02 ?_))
   refine Z0v (110) ?_ (.cons rfl (.cons rfl (.cons rfl .nil))) ?_
   ·exact ⟨H3, ⟨by unfold askE; rw [← hB.1, if_pos hc0.1, if_pos hc0.2], fun h => absurd h (by decide)⟩⟩
   exact (.cons rfl ZN .nil)
  refine Z0c ?_
  refine Z0v (e) ?_ (.cons rfl (.cons rfl (.cons rfl .nil))) ?_
  ·refine ⟨H3, ⟨?_, fun h => ⟨ZO, ZO, h ▸ hB⟩⟩⟩
   unfold askE
   rw [← hB.1]
   split
   ·rename_i h
    rw [if_neg (fun h2 => hc0 ⟨h, h2⟩)]
    exact h
   rfl
  exact (.cons rfl ZN .nil)
 rintro e2 w4 ⟨H4, hA⟩
 show RunC P _ _ _ (_ :: _) _
 refine Z03 ?_
 have H5 := H4.drewn
 refine Z1t (n := 8) [Zz,Zz,Zz,Zz,Zz,Zz,Zz,Zz] (fun wS => (As.blk b0_1 68 [.bool n1, .int .u64 n2, .int .i64 n3]).ok wS) ZK rfl rfl ?_
 apply Zu (L' := [Zy,Zz,Zz,Zz,Zz,Zz,Zz,Zz]) 0 (H5.ok mem2)
 ·intro wS sS
  refine Zm (Z02 ?_)
  exact Z0d rfl
 apply Zu (L' := [Zy,Zy,Zz,Zz,Zz,Zz,Zz,Zz]) 1 (H5.ok mem2)
 ·intro wS sS
  refine Z0b (Z0R sS) mem0 rfl rfl underlying68 rfl tz68 rfl (.take (.take (.take .nil))) ?_
  refine Z02 ?_
  exact Z0d rfl
 apply Zu (L' := [Zy,Zy,Zy,Zz,Zz,Zz,Zz,Zz]) 2 (H5.ok mem2)
 ·intro wS sS
  refine Zm (Z02 ?_)
  exact Z0d rfl
 apply Zu (L' := [Zy,Zy,Zy,Zy,Zz,Zz,Zz,Zz]) 3 (H5.ok mem2)
 ·intro wS sS
  refine Zm (Z02 ?_)
  exact Z0d rfl
 apply Zu (L' := [Zy,Zy,Zy,Zy,Zy,Zz,Zz,Zz]) 4 (H5.ok mem2)
 ·intro wS sS
  refine Zg (Z02 ?_)
  exact Z0d rfl
 refine Z0O (L' := [Zy,Zy,Zy,Zy,Zy,Zy,Zz,Zz]) 5 ZK rfl rfl ?_
 refine Z09 H5 (.tail (.tail .head)) (.zero (.zero (.zero .nil))) rfl tz68 rfl rfl ZC (fun w6 H6 => ?_)
 refine Z02 ?_
 refine Z0F (H6.ok mem2) ?_
 apply Zu (L' := [Zy,Zy,Zy,Zy,Zy,Zy,Zy,Zz]) 6 (H6.ok mem2)
 ·intro wS sS
  refine Zg (Z02 ?_)
  exact Z0d rfl
 apply Zu (L' := [Zy,Zy,Zy,Zy,Zy,Zy,Zy,Zy]) 7 (H6.ok mem2)
 ·intro wS sS
  refine Zg (Z02 ?_)
  exact Z0d rfl
 refine Z0W ZK ?_
 refine Z01 ?_
 refine Zk [6, 7, 8, 9] ?_
 refine Z0f ?_
 refine Z0k results28 (.tmp rfl (.cell rfl (Z0g H6 mem2 underlying68 rfl tz68 (.take (.take (.take .nil)))) (.tmp rfl (.tmp rfl .nil)))) rfl ?_
 refine ⟨_, rfl, ?_⟩
 have H7 := St.del (.tail (.tail .head)) H6
 exact ⟨_, _, _, _, _, _, _, _, rfl, hA, H7.grows⟩
theorem Z3a {d : Kd} {b : Int} {x y : List UInt8} (h : d.I ≤ b % d.S) : wdT d b x = wdT d b y := by
 unfold wdT
 split
 ·rfl
 rw [if_pos ZO, if_pos ZO]
theorem Z2R {d : Kd} {b : Int} {x : List UInt8} (h : b % d.S < d.I) : wdT d b x = sgT d b ++ x := by
 unfold wdT
 rw [if_neg (by omega), if_neg (by omega)]
theorem p8_10 : ∀ k : Nat, (8 : Int) ^ k ≤ 10 ^ k
 | 0 => by simp
 | k + 1 => by
  have := p8_10 k
  have := p10 k
  rw [Int.pow_succ, Int.pow_succ]
  omega
theorem rn_len {d : Kd} {b e : Int} (hb : 0 ≤ b ∧ b < d.I) (he : -420 ≤ e ∧ e ≤ 420) : 0 ≤ rnE (fN (fX d b) (-e)) (fD (fY d b) (-e)) ∧ (dtx (rnE (fN (fX d b) (-e)) (fD (fY d b) (-e)))).length ≤ 967 := by
 have hxy := Z54 hb
 have hD0 := Z1W (Z2H d b) (-e)
 have hN0 := Z1C hxy.1 (-e)
 have hNb := Z4h hxy.1 (e := -e) ZO ZO
 have hQ0 : 0 ≤ fN (fX d b) (-e) / fD (fY d b) (-e) := Int.ediv_nonneg hN0 (Int.le_of_lt hD0)
 have hQ1 := Int.ediv_le_self (fD (fY d b) (-e)) hN0
 have h1 := (Ma.blen_le_iff hN0 2881).1 hNb
 have h2 : (2 : Int) ^ 2881 ≤ 2 ^ 2900 := Ma.pow_mono ZO ZO
 have h3 : (2 : Int) ^ 2901 = 8 ^ 967 := by rw [show (8 : Int) = 2 ^ 3 from rfl, ← Int.pow_mul]
 have h4 : (2 : Int) ^ 2901 = 2 ^ 2900 * 2 := Int.pow_succ ..
 have h5 := p8_10 967
 have h6 := p2_ 2900
 have hb := rnE_bd (N := fN (fX d b) (-e)) (D := fD (fY d b) (-e))
 refine ⟨ZO, ?_⟩
 rcases Int.lt_or_eq_of_le (show 0 ≤ rnE (fN (fX d b) (-e)) (fD (fY d b) (-e)) by omega) with h | h
 ·rw [Z3w h]
  exact dl_le ZO ZO
 rw [← h]
 decide
def FixT (k b n e : Int) (t : List UInt8) : Prop := e = askE k b n ∧ (e ≠ 0 → t = []) ∧ (e = 0 → ∃ d, kd k = some d ∧ b < 2 * d.S ∧ t = wdT d b (fxT (rnE (fN (fX d (b % d.S)) (-n)) (fD (fY d (b % d.S)) (-n))) n))
theorem FixT.unique {k b n e e' : Int} {t t' : List UInt8} (h : FixT k b n e t) (g : FixT k b n e' t') : e = e' ∧ t = t' := by
 have he : e = e' := h.1.trans g.1.symm
 subst he
 refine ⟨rfl, ?_⟩
 by_cases h0 : e = 0
 ·obtain ⟨d, hd, _, h1⟩ := h.2.2 h0
  obtain ⟨d', hd', _, g1⟩ := g.2.2 h0
  rw [hd] at hd'
  cases hd'
  rw [h1, g1]
 rw [h.2.1 h0, g.2.1 h0]
theorem FixedP (k b : Int) (hb : 0 ≤ b ∧ b ≤ 18446744073709551615) (n : Int) (hn : -9223372036854775808 ≤ n ∧ n ≤ 9223372036854775807) (w : World) :
  Z0h P 14 [.int .i64 k, .int .u64 b, .int .i64 n] w fun r w' => ∃ v e t, r = .tuple #[v, .int .i64 e] ∧ FixT k b n e t ∧ Grow w w' [As.rb 5 v t] := by
 refine Z0n func14 rfl ntmps14 rfl ?_
 have H0 := St.start w
 refine Z03 (Z00 (Zg (Zg (Z02 (Z01 (Z03 (Z00 (Zm (Zm (Zm ?_))))))))))
 refine Zc func28 (askedP k b hb n hn w) ?_
 rintro _ w1 ⟨p, n1, n2, n3, over, e, A1, A2, rfl, hA, hG⟩
 have H1 := hG _ _ _ _ H0
 simp only [Zca, Zna] at H1
 refine Zm ?_
 refine Zx (Zx (Zx (Zx ?_)))
 refine Z0z H1 ta68 rfl rfl (fun b1_9 w2 H2 => ?_)
 refine Zg ?_
 refine Z09 H2 .head (.zero (.zero (.zero .nil))) rfl tz68 rfl rfl ZC (fun w3 H3 => ?_)
 refine Zg (Zg (Z02 (Z01 ?_)))
 refine Zk [2, 8, 9, 10, 11] ?_
 refine Z03 (Z0e (Z03 (Z00 (Zm ?_))))
 refine Zo ?_
 refine Zg (Z02 (Z01 ?_))
 (first | refine Z0a rfl ?_ ?_ | refine Z06 rfl ?_ ?_) <;> intro hc0
 ·refine Z03 (Z00 (Zm (Zg (Zg (Z02 (Z01 ?_))))))
  refine Zk [6, 7] ?_
  refine Z0f ?_
  refine Z0m ?_
  refine Z05 ?_
  refine Z0t results14 rfl rfl ?_
  refine ⟨_, rfl, ?_⟩
  have H7 := St.del .head (St.del (.tail .head) (St.del (.tail (.tail .head)) (St.front2 H3)))
  exact ⟨_, e, [], rfl, ⟨hA.1, fun _ => rfl, fun h => absurd h hc0⟩, (H7.nil 5).grows⟩
 have he0 : e = 0 := by omega
 obtain ⟨hn0, hn40, hB⟩ := hA.2 he0
 obtain ⟨d, lb, vt, t, hk, hltS, rfl, rfl, rfl, htl, hov, hnov⟩ := hB.2 rfl
 have hbd := d.bd
 have hms := Z2L d ⟨hb.1, hltS⟩
 refine Z03 (Z00 (Zm (Zg (Z02 (Z01 ?_)))))
 (first | refine Z0a rfl ?_ ?_ | refine Z06 rfl ?_ ?_) <;> intro hc1
 ·refine Z03 (Z00 (Zm (Z0N rfl rfl rfl (Z08 Z1Y rfl rfl rfl ?_))))
  refine Z04 H3 mem1 rfl rfl underlying26 rfl rfl rfl ?_
  refine Zg (Zg (Z02 (Z01 ?_)))
  refine Zk [6, 7] ?_
  refine Z0f ?_
  refine Z0m ?_
  refine Z05 ?_
  refine Z0t results14 rfl rfl ?_
  refine ⟨_, rfl, ?_⟩
  have H10 := St.del (.tail .head) (St.del (.tail (.tail .head)) (St.front2 H3))
  exact ⟨_, 0, _, rfl, ⟨he0 ▸ hA.1, fun h => absurd rfl h, fun _ => ⟨d, hk, hltS, by rw [(hov hc1).2]; exact Z3a (hov hc1).1⟩⟩, H10.grows⟩
 obtain ⟨hfin, htS, hR⟩ := hnov (by simpa using hc1)
 obtain ⟨rfl, rfl, rfl⟩ : n1 = decide (d.S ≤ b) ∧ n2 = splM d (b % d.S) ∧ n3 = splE d (b % d.S) := by simpa using hR
 have hrl := rn_len (d := d) (b := b % d.S) (e := n) ZO ZO
 refine Z0c ?_
 refine Z0C ?_
 refine Z01 (Z03 (Z00 ?_))
 refine Z0b H3 mem0 rfl rfl underlying68 rfl tz68 rfl (.take (.take (.take .nil))) ?_
 refine Zm ?_
 refine Zc func30 (roundedP (decide (d.S ≤ b)) d (b % d.S) n ZO ZO w3) ?_
 rintro vd w11 ⟨_, rfl, hG⟩
 have H11 := hG _ _ _ _ H3
 simp only [Zca, Zna] at H11
 refine Zg (Z02 (Z01 ?_))
 refine Zk [2, 8, 12] ?_
 refine Z12 (ι := Value × List UInt8) (fun (z0 : Value × List UInt8) (w' : World) => match z0 with | ⟨vd2, ds⟩ => St w w.heap.size Z0G ([As.blk lb 72 [vt], As.rb 5 vt t, As.iv vd2 (bys ds)]) w' ∧ ds = padT (dtx (rnE (fN (fX d (b % d.S)) (-n)) (fD (fY d (b % d.S)) (-n)))) n ∧ n < (ds.length : Int) ∧ ds.length ≤ 1000) (fun (z0 : Value × List UInt8) => match z0 with | ⟨vd2, ds⟩ => [(12, vd2)]) [2, 8] (.cons rfl (.cons rfl .nil)) ?_ ?_
 ·refine Z03 (Z00 (Zm ?_))
  refine Z0w rfl rfl rfl rfl (Z0i ZO) ?_
  refine Zm ?_
  refine Z0L rfl rfl underlying26 rfl (by first | exact H11.ii mem0 | exact H11.ibl mem1 | exact H11.ibl mem2 | exact H11.io mem3 | assumption) ?_
  refine Z0A rfl rfl rfl rfl (Z0i ZO) ?_
  refine Zg (Z02 (Z01 (Z03 (Z00 (Zm ?_)))))
  refine Zw ?_
  refine Z02 (Z01 ?_)
  refine Zk [2, 8, 12, 13, 43] ?_
  (first | refine Z0a rfl ?_ ?_ | refine Z06 rfl ?_ ?_) <;> intro hc2
  ·refine Z03 (Z00 ?_)
   refine Z0D rfl rfl pl72 ta72 .nil ?_
   refine Z1z H11 rfl rfl rfl (fun b9_1 w12 H12 => ?_)
   refine Zg (Z02 (Z01 (Z03 (Z00 ?_))))
   have H13 := H12.nil 5
   refine Zm (Zm ?_)
   have H14 := St.frontL (l := [_]) H13
   simp only [Zca, Zna] at H14
   refine Zc func19 (Z3G b9_1 (.slice none 0 0) [] (by simp) (n + 1 - ((dtx (rnE (fN (fX d (b % d.S)) (-n)) (fD (fY d (b % d.S)) (-n)))).length : Int)) ZO w12 (St.rows (τ := [As.blk b9_1 72 [.slice none 0 0], As.rb 5 (.slice none 0 0) []]) H14)) ?_
   rintro _ w15 ⟨v1, rfl, hX⟩
   have H15 := hX _ _ _ _ H14
   simp only [Zca, Zna] at H15
   refine Z02 (Z01 ?_)
   refine Zk [2, 8, 12, 14] ?_
   refine Z03 (Z00 (Zm (Zm ?_)))
   have H16 := St.frontL (l := [_]) H15
   simp only [Zca, Zna] at H16
   have H17 := St.frontL (l := [_]) H16
   simp only [Zca, Zna] at H17
   refine Zc func16 (putP b9_1 v1 (zsT (n + 1 - ((dtx (rnE (fN (fX d (b % d.S)) (-n)) (fD (fY d (b % d.S)) (-n)))).length : Int))) (by unfold zsT; rw [List.length_replicate]; omega) vd (dtx (rnE (fN (fX d (b % d.S)) (-n)) (fD (fY d (b % d.S)) (-n)))) ZO w15 (St.rows (τ := [As.blk b9_1 72 [v1], As.rb 5 v1 (zsT (n + 1 - ((dtx (rnE (fN (fX d (b % d.S)) (-n)) (fD (fY d (b % d.S)) (-n)))).length : Int)))]) H17) (St.argR (τ := [As.blk b9_1 72 [v1], As.rb 5 v1 (zsT (n + 1 - ((dtx (rnE (fN (fX d (b % d.S)) (-n)) (fD (fY d (b % d.S)) (-n)))).length : Int)))]) H17 (A := As.iv vd (bys (dtx (rnE (fN (fX d (b % d.S)) (-n)) (fD (fY d (b % d.S)) (-n)))))) (.head _) (R := fun w1 => IB w1 vd (dtx (rnE (fN (fX d (b % d.S)) (-n)) (fD (fY d (b % d.S)) (-n))))) (fun w1 h => h))) ?_
   rintro _ w18 ⟨v2, rfl, hX⟩
   have H18 := hX _ _ _ _ H17
   simp only [Zca, Zna] at H18
   refine Z02 (Z01 (Z00 (Zm (Z0N rfl rfl rfl (Z08 Z1Y rfl rfl rfl ?_)))))
   refine Z04 H18 mem0 rfl rfl underlying26 rfl rfl rfl ?_
   refine Zg (Z02 ?_)
   have H19 := St.frontL (l := [_, _, _, _, _]) H18
   simp only [Zca, Zna] at H19
   have H20 := St.frontL (l := [_, _, _, _, _]) H19
   simp only [Zca, Zna] at H20
   have H21 := St.frontL (l := [_, _, _]) H20
   simp only [Zca, Zna] at H21
   have H24 := St.del (.tail (.tail (.tail .head))) (St.del (.tail (.tail (.tail (.tail .head)))) (St.del (.tail (.tail (.tail (.tail (.tail .head))))) H21))
   refine Z0v (v2, padT (dtx (rnE (fN (fX d (b % d.S)) (-n)) (fD (fY d (b % d.S)) (-n)))) n) ?_ (.cons rfl (.cons rfl .nil)) ?_
   ·have hpd : padT (dtx (rnE (fN (fX d (b % d.S)) (-n)) (fD (fY d (b % d.S)) (-n)))) n = zsT (n + 1 - ((dtx (rnE (fN (fX d (b % d.S)) (-n)) (fD (fY d (b % d.S)) (-n)))).length : Int)) ++ dtx (rnE (fN (fX d (b % d.S)) (-n)) (fD (fY d (b % d.S)) (-n))) := by unfold padT; rw [if_pos ZO]
    have hzl : (zsT (n + 1 - ((dtx (rnE (fN (fX d (b % d.S)) (-n)) (fD (fY d (b % d.S)) (-n)))).length : Int))).length = (n + 1 - ((dtx (rnE (fN (fX d (b % d.S)) (-n)) (fD (fY d (b % d.S)) (-n)))).length : Int)).toNat := by unfold zsT; rw [List.length_replicate]
    exact ⟨St.front2 (St.front2 (St.ro_iv (H24.cast (by rw [← hpd])))), rfl, by rw [hpd, List.length_append]; omega, by rw [hpd, List.length_append]; omega⟩
   exact (.cons rfl ZN .nil)
  refine Z0c ?_
  have H25 := St.frontL (l := [_, _, _]) H11
  simp only [Zca, Zna] at H25
  have H26 := St.frontL (l := [_, _, _]) H25
  simp only [Zca, Zna] at H26
  have H27 := St.del (.tail (.tail (.tail .head))) H26
  refine Z0v (vd, padT (dtx (rnE (fN (fX d (b % d.S)) (-n)) (fD (fY d (b % d.S)) (-n)))) n) ?_ (.cons rfl (.cons rfl .nil)) ?_
  ·have hpd : padT (dtx (rnE (fN (fX d (b % d.S)) (-n)) (fD (fY d (b % d.S)) (-n)))) n = dtx (rnE (fN (fX d (b % d.S)) (-n)) (fD (fY d (b % d.S)) (-n))) := by unfold padT; rw [if_neg ZO]
   exact ⟨H27.cast (by rw [hpd]), rfl, by rw [hpd]; omega, by rw [hpd]; omega⟩
  exact (.cons rfl ZN .nil)
 rintro ⟨vd2, ds⟩ w28 ⟨H28, hds, hdn, hd1⟩
 show RunC P _ _ _ (_ :: _) _
 refine Z03 (Z00 (Zm (Zm (Zm ?_))))
 refine Z0L rfl rfl underlying26 rfl (by first | exact H28.ibl mem0 | exact H28.io mem1 | exact H28.ii mem2 | assumption) ?_
 refine Zm ?_
 refine Z0A rfl rfl rfl rfl (Z0i ZO) ?_
 refine Z0u (s := 61) (v' := .int .i64 ((ds.length - n.toNat : Nat) : Int)) rfl (congrArg (Value.int .i64) ZO) ?_
 refine Zc func20 (pointP lb vt t ZO vd2 ds ZO (ds.length - n.toNat) ZO w28 (St.rows (τ := [As.blk lb 72 [vt], As.rb 5 vt t, As.iv vd2 (bys ds)]) H28)) ?_
 rintro _ w29 ⟨v3, rfl, hX⟩
 have H29 := hX _ _ _ _ H28
 simp only [Zca, Zna] at H29
 refine Z02 (Z01 ?_)
 refine Zk [8] ?_
 refine Z03 (Z00 (Zm (Z0N rfl rfl rfl (Z08 Z1Y rfl rfl rfl ?_))))
 refine Z04 H29 mem0 rfl rfl underlying26 rfl rfl rfl ?_
 refine Zg (Zg (Z02 (Z01 ?_)))
 refine Z0f ?_
 refine Z0t results14 rfl rfl ?_
 refine ⟨_, rfl, ?_⟩
 have H32 := St.del (.tail .head) (St.del (.tail (.tail .head)) (St.front1 H29))
 refine ⟨_, 0, _, rfl, ⟨he0 ▸ hA.1, fun h => absurd rfl h, fun _ => ⟨d, hk, hltS, ?_⟩⟩, H32.grows⟩
 rw [Z2R hfin, htS, fxT, ← hds, show ((ds.length - n.toNat : Nat) : Int) = (ds.length : Int) - n by omega]
section
variable {P : Program} {N : Nat} {ops : Array Oper} {Q : Z1L} {ρ : Env} {w w0 : World} {rest : List Oper} {d : Nat} {ty : TypeId} {pos : String} {af : Array Edge} {g : Option (Nat × Bool)}
theorem l_makeF {f : FuncId} {first : List Operand} {vals : List Value} (hg : Z0s ops ρ g = true) (hN : Nat.blt d N = true) (hv : Z0Z ρ first vals)
  (n : RunL P N ops Q rest ((d, .func (.func f) vals.toArray #[]) :: ρ) w) : RunL P N ops Q (⟨some d, .makeFunc (.func f) first.toArray #[], ty, pos, af, g⟩ :: rest) ρ w :=
 Z10 hg rfl hN (fun a ha => by
  have hmap : first.toArray.map a.eval = vals.toArray := by rw [← hv.map ha]; simp
  simp [execOp, Instr.makeFunc, hmap]) n
theorem Z4f {Q : Post} {x : Operand} {f : FuncId} {fn : Func} {c : Code} {args : List Operand} {vals first : List Value} {ats : Array TypeId} {R : Value → World → Prop} (hg : Z0s ops ρ g = true) (hN : Nat.blt d N = true) (hx : Z0j ρ x = some (.func (.func f) first.toArray #[])) (hf : P.funcs[f]? = some fn) (hn : (fn.name == "runtime.NumGoroutine") = false) (hb : fn.body = some c)
  (hv : Z0Z ρ args vals) (h : Z0h P f (first ++ vals) w R) (n : ∀ v w', R v w' → RunL P N ops ⟨false, Q⟩ rest ((d, v) :: ρ) w') : RunL P N ops ⟨false, Q⟩ (⟨some d, .call ⟨.value x, args.toArray, ats⟩, ty, pos, af, g⟩ :: rest) ρ w := fun a ha => by
 show wpList P ops Q (_ :: _) a w
 unfold wpList
 rw [if_pos (Z1A ha hg)]
 refine .inl ?_
 unfold Oper.wp
 have h1 : fn.name ≠ "runtime.NumGoroutine" := by simpa using hn
 have hmap : args.toArray.map a.eval = vals.toArray := by rw [← hv.map ha]; simp
 have : (execOp a.eval ⟨some d, .call ⟨.value x, args.toArray, ats⟩, ty, pos, af, g⟩).run P w = .ok (.enter f (first ++ vals).toArray) w := by
  simp only [execOp, resolve, hmap, ha.eval hx]
  simp [Deferred.ofValue, invoke, callFunc, hf, h1, hb]
 rw [this, Oper.upon_enter]
 refine Calls.mono h fun e w' hr => ?_
 obtain ⟨v, rfl, hr⟩ := hr
 exact n v w' hr _ (ha.put d hN v)
end
def ShT (k b e : Int) (t : List UInt8) : Prop := e = (clsF k b).2 ∧ (e ≠ 0 → t = []) ∧ (e = 0 → ∃ d body, kd k = some d ∧ b < 2 * d.S ∧ t = wdT d b body ∧ (b % d.S = 0 → body = [48]) ∧ (0 < b % d.S → b % d.S < d.I → ∃ m x, DigR d (b % d.S) (fX d (b % d.S)) (fY d (b % d.S)) m x ∧ body = shT m x))
theorem ShT.unique {k b e e' : Int} {t t' : List UInt8} (hb : 0 ≤ b) (h : ShT k b e t) (g : ShT k b e' t') : e = e' ∧ t = t' := by
 have he : e = e' := h.1.trans g.1.symm
 subst he
 refine ⟨rfl, ?_⟩
 by_cases h0 : e = 0
 ·obtain ⟨d, bd, hd, _, h1, h2, h3⟩ := h.2.2 h0
  obtain ⟨d', bd', hd', _, g1, g2, g3⟩ := g.2.2 h0
  rw [hd] at hd'
  cases hd'
  have hbd := d.bd
  have hm := Int.emod_nonneg b (show d.S ≠ 0 by omega)
  rcases Int.lt_or_le (b % d.S) d.I with h4 | h4
  ·rcases Int.lt_or_eq_of_le hm with h5 | h5
   ·obtain ⟨m, x, hD, e1⟩ := h3 h5 h4
    obtain ⟨m', x', hD', e1'⟩ := g3 h5 h4
    obtain ⟨rfl, rfl⟩ := hD.unique (Z2H _ _) hD'
    rw [h1, g1, e1, e1']
   rw [h1, g1, h2 h5.symm, g2 h5.symm]
  rw [h1, g1]
  exact Z3a h4
 rw [h.2.1 h0, g.2.1 h0]
theorem Z2B {w w1 : World} (h : TabP w) (hk : ∀ k, k < w.heap.size → ¬ Z0G k → w1.heap[k]? = w.heap[k]?) : TabP w1 := by
 unfold TabP Lib.TabIs World.var? at *
 cases hg : P.globalNamed "internal/strconv.uint64pow10" with
 | none => simp [hg] at h
 | some g =>
  simp only [hg, Option.bind_some] at h ⊢
  have hlt : g < w.heap.size := by
   rcases Nat.lt_or_ge g w.heap.size with h' | h'
   ·exact h'
   rw [Array.getElem?_eq_none h'] at h; simp at h
  rw [hk g hlt (fun e => e)]
  exact h
theorem Z59 (k b : Int) (hb : 0 ≤ b ∧ b ≤ 18446744073709551615) (w : World) (hT : TabP w) :
  Z0h P 7 [.int .i64 k, .int .u64 b] w fun r w' => ∃ v e t, r = .tuple #[v, .int .i64 e] ∧ ShT k b e t ∧ Grow w w' [As.rb 5 v t] := by
 refine Z0n func7 rfl ntmps7 rfl ?_
 have H0 := St.start w
 have hTT : ∀ w1 : World, (∀ k, k < w.heap.size → ¬ Z0G k → w1.heap[k]? = w.heap[k]?) → TabP w1 := fun w1 h => Z2B hT h
 refine Z03 (Z00 (Zg (Zg (Z02 (Z01 (Z03 (Z00 (Zm (Zm ?_)))))))))
 refine Zc func15 (begunQ k b hb w) ?_
 rintro _ w1 ⟨p, n1, n2, n3, over, e, A1, A2, rfl, hB, hG⟩
 have H1 := hG _ _ _ _ H0
 simp only [Zca, Zna] at H1
 refine Zm ?_
 refine Zx (Zx (Zx (Zx ?_)))
 refine Z0z H1 ta68 rfl rfl (fun b1_8 w2 H2 => ?_)
 refine Zg ?_
 refine Z09 H2 .head (.zero (.zero (.zero .nil))) rfl tz68 rfl rfl ZC (fun w3 H3 => ?_)
 refine Zg (Zg (Z02 (Z01 ?_)))
 refine Zk [0, 1, 6, 7, 8, 9] ?_
 refine Z03 (Z0e (Z03 (Z00 (Zm ?_))))
 refine Zo ?_
 refine Zg (Z02 (Z01 ?_))
 (first | refine Z0a rfl ?_ ?_ | refine Z06 rfl ?_ ?_) <;> intro hc0
 ·refine Z03 (Z00 (Zm (Zg (Zg (Z02 (Z01 ?_))))))
  refine Zk [4, 5] ?_
  refine Z0f ?_
  refine Z0m ?_
  refine Z05 ?_
  refine Z0t results7 rfl rfl ?_
  refine ⟨_, rfl, ?_⟩
  have H7 := St.del .head (St.del (.tail .head) (St.del (.tail (.tail .head)) (St.front2 H3)))
  exact ⟨_, e, [], rfl, ⟨hB.1, fun _ => rfl, fun h => absurd h hc0⟩, (H7.nil 5).grows⟩
 have he0 : e = 0 := by omega
 obtain ⟨d, lb, vt, t, hk, hltS, rfl, rfl, rfl, htl, hov, hnov⟩ := hB.2 he0
 have hbd := d.bd
 have hms := Z2L d ⟨hb.1, hltS⟩
 refine Z03 (Z00 (Zm (Zg (Z02 (Z01 ?_)))))
 (first | refine Z0a rfl ?_ ?_ | refine Z06 rfl ?_ ?_) <;> intro hc1
 ·refine Z03 (Z00 (Zm (Z0N rfl rfl rfl (Z08 Z1Y rfl rfl rfl ?_))))
  refine Z04 H3 mem1 rfl rfl underlying26 rfl rfl rfl ?_
  refine Zg (Zg (Z02 (Z01 ?_)))
  refine Zk [4, 5] ?_
  refine Z0f ?_
  refine Z0m ?_
  refine Z05 ?_
  refine Z0t results7 rfl rfl ?_
  refine ⟨_, rfl, ?_⟩
  have H10 := St.del (.tail .head) (St.del (.tail (.tail .head)) (St.front2 H3))
  exact ⟨_, 0, _, rfl, ⟨he0 ▸ hB.1, fun h => absurd rfl h, fun _ => ⟨d, (if b % d.S = 0 then [48] else []), hk, hltS, by rw [(hov hc1).2]; exact Z3a (hov hc1).1, fun h => if_pos h, fun h1 h2 => absurd h2 (by have := (hov hc1).1; omega)⟩⟩, H10.grows⟩
 obtain ⟨hfin, htS, hR⟩ := hnov (by simpa using hc1)
 obtain ⟨rfl, rfl, rfl⟩ : n1 = decide (d.S ≤ b) ∧ n2 = splM d (b % d.S) ∧ n3 = splE d (b % d.S) := by simpa using hR
 have hz : splM d (b % d.S) = 0 ↔ b % d.S = 0 := by
  constructor
  ·intro h
   rcases Int.lt_or_eq_of_le (show 0 ≤ b % d.S by omega) with h1 | h1
   ·have := Z2C (d := d) (b := b % d.S) ⟨h1, hfin⟩
    omega
   exact h1.symm
  intro h
  unfold splM
  rw [h, Int.zero_emod, if_pos ZO]
 refine Z03 (Z00 (Z08 Z27 rfl rfl rfl ?_))
 refine Z04 H3 mem0 rfl rfl underlying22 rfl rfl rfl ?_
 refine Ze ?_
 refine Zg (Z02 (Z01 ?_))
 (first | refine Z0a rfl ?_ ?_ | refine Z06 rfl ?_ ?_) <;> intro hc2
 ·refine Z03 (Z00 (Zm ?_))
  refine Z1D H3 rfl rfl underlying26 ti5 rfl (.cons rfl ZR .nil) rfl rfl rfl (fun b7_1 w11 H11 => ?_)
  have H12 := St.frontL (l := [_, _, _]) H11
  simp only [Zca, Zna] at H12
  have H13 := St.frontL (l := [_, _, _]) H12
  simp only [Zca, Zna] at H13
  refine Z0J rfl rfl func16 rfl rfl (.cons rfl (.cons rfl .nil)) (putP lb vt (t) (by first | omega | (simp only [List.length_append, List.length_cons, List.length_nil]; omega)) _ ([48]) (by first | (simp; done) | omega) w11 (St.rows (τ := [As.blk lb 72 [vt], As.rb 5 vt (t)]) H13) (St.argR (τ := [As.blk lb 72 [vt], As.rb 5 vt (t)]) H13 (A := As.blk b7_1 5 [.int .u8 48]) (.head _) (R := fun w1 => IB w1 (.slice (some ⟨b7_1, 0, none⟩) 1 1) [48]) (fun w1 h => Z3O h))) ?_
  rintro _ w14 ⟨v2, rfl, hX⟩
  have H14 := hX _ _ _ _ H13
  simp only [Zca, Zna] at H14
  refine Z02 (Z01 ?_)
  refine Zk [6] ?_
  refine Z03 (Z00 (Zm (Z0N rfl rfl rfl (Z08 Z1Y rfl rfl rfl ?_))))
  refine Z04 H14 mem0 rfl rfl underlying26 rfl rfl rfl ?_
  refine Zg (Zg (Z02 (Z01 ?_)))
  refine Z0f ?_
  refine Z0m ?_
  refine Z05 ?_
  refine Z0t results7 rfl rfl ?_
  refine ⟨_, rfl, ?_⟩
  have H18 := St.del (.tail .head) (St.del (.tail (.tail .head)) (St.del (.tail (.tail (.tail .head))) (St.front1 H14)))
  exact ⟨_, 0, _, rfl, ⟨he0 ▸ hB.1, fun h => absurd rfl h, fun _ => ⟨d, [48], hk, hltS, by rw [Z2R hfin, htS], fun h => rfl, fun h1 h2 => absurd (hz.1 hc2) ZO⟩⟩, H18.grows⟩
 have hpos : 0 < b % d.S := by
  have : ¬ b % d.S = 0 := fun h => hc2 (hz.2 h)
  omega
 refine Z0c ?_
 refine Z0C ?_
 refine Z01 ?_
 refine Zk [0, 1, 6] ?_
 refine Z03 (Z00 (Zm (Zm ?_)))
 refine Zc func17 (DigitsF k b hb w3) ?_
 rintro _ w19 ⟨m, x, er, rfl, hE, hG⟩
 have H19 := hG _ _ _ _ H3
 simp only [Zca, Zna] at H19
 obtain rfl : er = 0 := hE.1.trans (ofE_is hk hltS ⟨hpos, hfin⟩)
 obtain ⟨d', hd', _, _, _, hDig⟩ := hE.2.2 rfl
 rw [hk] at hd'
 cases hd'
 have hbdE := hDig.bd ⟨hpos, hfin⟩
 refine Zm ?_
 refine Zx (Zx (Zx (Zg (Zg (Zg (Z02 (Z01 (Z03 (Z00 (Zm ?_))))))))))
 refine Zc func18 (textD m ZO w19) ?_
 rintro vd w20 ⟨_, rfl, hG⟩
 have H20 := hG _ _ _ _ H19
 simp only [Zca, Zna] at H20
 have hml := dtx_le (x := m) ZO
 have hml1 := dtx_pos (z := m) ZO
 have hpt1 : (ptT (dtx m) 1).length ≤ 30 := by unfold ptT; split <;> simp <;> omega
 refine Zg (Z02 (Z01 ?_))
 refine Zk [6, 11, 13] ?_
 refine Z03 (Z00 ?_)
 have H21 := St.ro_iv H20
 refine Zm ?_
 refine l_makeF rfl rfl (.cons rfl .nil) ?_
 refine Zm ?_
 refine l_makeF rfl rfl (.cons rfl .nil) ?_
 refine Zg (Zg (Z02 (Z01 (Z03 (Z00 (Zm ?_))))))
 refine Z0L rfl rfl underlying26 rfl (by first | exact H21.ii mem0 | exact H21.ibl mem1 | exact H21.ibl mem2 | exact H21.io mem3 | assumption) ?_
 refine Zm ?_
 refine Z0w rfl rfl rfl rfl (Z0i ZO) ?_
 refine Zg (Z02 (Z01 ?_))
 refine Zk [6, 13, 14, 15, 16] ?_
 refine Z03 (Z0e (Z03 (Z00 (Zm ?_))))
 refine Zl ?_
 refine Zm ?_
 apply l_or 2 [6, 13, 14, 15, 16] rfl rfl (.cons rfl (.cons rfl (.cons rfl (.cons rfl (.cons rfl (.cons rfl .nil)))))) rfl rfl (fun _ => rfl) rfl rfl rfl
 ·intro hg15_3
  refine Zm ?_
  refine Zw ?_
  refine Z02 ?_
  exact Z0o rfl (.cons rfl (ZF hg15_3) (.cons rfl rfl (.cons rfl rfl (.cons rfl rfl (.cons rfl rfl (.cons rfl rfl .nil))))))
 refine Zg (Z02 (Z01 ?_))
 (first | refine Z0a rfl ?_ ?_ | refine Z06 rfl ?_ ?_) <;> intro hc3
 ·refine Z03 (Z00 (Zm (Zm ?_)))
  have H22 := St.frontL (l := [_, _, _]) H21
  simp only [Zca, Zna] at H22
  have H23 := St.frontL (l := [_, _, _]) H22
  simp only [Zca, Zna] at H23
  refine Zc func20 (pointP lb vt (t) (by first | omega | (simp only [List.length_append, List.length_cons, List.length_nil]; omega)) vd (dtx m) ZO (1) ZO w20 (St.rows (τ := [As.blk lb 72 [vt], As.rb 5 vt (t), As.iv vd (bys (dtx m))]) H23)) ?_
  rintro _ w24 ⟨v2, rfl, hX⟩
  have H24 := hX _ _ _ _ H23
  simp only [Zca, Zna] at H24
  refine Z02 (Z01 ?_)
  refine Zk [6, 16] ?_
  refine Z00 (Zm (Zm ?_))
  refine Z0A rfl rfl rfl rfl (Z0i ZO) ?_
  refine Zc func21 (expP lb v2 (t ++ ptT (dtx m) 1) (by first | omega | (simp only [List.length_append, List.length_cons, List.length_nil]; omega) | (have := hpt1; simp only [List.length_append, List.length_cons, List.length_nil]; omega)) ((((dtx m).length : Int) + x) - 1) ZO w24 (St.rows (τ := [As.blk lb 72 [v2], As.rb 5 v2 (t ++ ptT (dtx m) 1)]) H24) (St.argH (τ := [As.blk lb 72 [v2], As.rb 5 v2 (t ++ ptT (dtx m) 1)]) H24 hTT)) ?_
  rintro _ w25 ⟨v3, rfl, hX⟩
  have H25 := hX _ _ _ _ H24
  simp only [Zca, Zna] at H25
  refine Z02 ?_
  refine Z0C ?_
  refine Z01 (Z03 (Z00 (Zm (Z0N rfl rfl rfl (Z08 Z1Y rfl rfl rfl ?_)))))
  refine Z04 H25 mem0 rfl rfl underlying26 rfl rfl rfl ?_
  refine Zg (Zg (Z02 (Z01 ?_)))
  refine Zk [4, 5] ?_
  refine Z0f ?_
  refine Z0t results7 rfl rfl ?_
  refine ⟨_, rfl, ?_⟩
  have H29 := St.del (.tail .head) (St.del (.tail (.tail .head)) (St.del (.tail (.tail (.tail .head))) (St.front1 H25)))
  refine ⟨_, 0, _, rfl, ⟨he0 ▸ hB.1, fun h => absurd rfl h, fun _ => ⟨d, shT m x, hk, hltS, ?_, fun h => absurd h ZO, fun h1 h2 => ⟨m, x, hDig, rfl⟩⟩⟩, H29.grows⟩
  rw [Z2R hfin, htS]
  unfold shT
  rw [if_pos hc3]
  all_goals simp
 refine Z03 (Z00 (Zm ?_))
 refine Zl ?_
 refine Zg (Z02 (Z01 ?_))
 (first | refine Z0a rfl ?_ ?_ | refine Z06 rfl ?_ ?_) <;> intro hc4
 ·refine Z03 (Z00 (Zm ?_))
  refine Z1D H21 rfl rfl underlying26 ti5 rfl (.cons rfl ZR (.cons rfl ZR .nil)) rfl rfl rfl (fun b19_1 w30 H30 => ?_)
  have H31 := St.frontL (l := [_, _, _, _]) H30
  simp only [Zca, Zna] at H31
  have H32 := St.frontL (l := [_, _, _, _]) H31
  simp only [Zca, Zna] at H32
  refine Z4f rfl rfl rfl func16 rfl rfl (.cons rfl .nil) (putP lb vt (t) (by first | omega | (simp only [List.length_append, List.length_cons, List.length_nil]; omega)) _ ([48, 46]) (by first | (simp; done) | omega) w30 (St.rows (τ := [As.blk lb 72 [vt], As.rb 5 vt (t)]) H32) (St.argR (τ := [As.blk lb 72 [vt], As.rb 5 vt (t)]) H32 (A := As.blk b19_1 5 [.int .u8 48, .int .u8 46]) (.head _) (R := fun w1 => IB w1 (.slice (some ⟨b19_1, 0, none⟩) 2 2) [48, 46]) (fun w1 h => Z3O h))) ?_
  rintro _ w33 ⟨v2, rfl, hX⟩
  have H33 := hX _ _ _ _ H32
  simp only [Zca, Zna] at H33
  refine Z02 (Z01 ?_)
  refine Zk [6, 13, 14, 15, 16] ?_
  refine Z03 (Z00 (Zm (Zm ?_)))
  refine Z1K rfl rfl rfl (Z0i ZO) ?_
  have hzl : (zsT (0 - (((dtx m).length : Int) + x))).length = (0 - (((dtx m).length : Int) + x)).toNat := by unfold zsT; rw [List.length_replicate]
  have H34 := St.frontL (l := [_]) H33
  simp only [Zca, Zna] at H34
  have H35 := St.frontL (l := [_]) H34
  simp only [Zca, Zna] at H35
  refine Z4f rfl rfl rfl func19 rfl rfl (.cons rfl .nil) (Z3G lb v2 (t ++ [48, 46]) (by first | omega | (simp only [List.length_append, List.length_cons, List.length_nil]; omega)) (0 - (((dtx m).length : Int) + x)) ZO w33 (St.rows (τ := [As.blk lb 72 [v2], As.rb 5 v2 (t ++ [48, 46])]) H35)) ?_
  rintro _ w36 ⟨v3, rfl, hX⟩
  have H36 := hX _ _ _ _ H35
  simp only [Zca, Zna] at H36
  refine Z02 (Z01 (Z00 (Zm (Zm ?_))))
  have H37 := St.frontL (l := [_, _, _]) H36
  simp only [Zca, Zna] at H37
  have H38 := St.frontL (l := [_, _]) H37
  simp only [Zca, Zna] at H38
  have H39 := St.frontL (l := [_, _]) H38
  simp only [Zca, Zna] at H39
  refine Z4f rfl rfl rfl func16 rfl rfl (.cons rfl .nil) (putP lb v3 (t ++ [48, 46] ++ zsT (0 - (((dtx m).length : Int) + x))) (by first | omega | (simp only [List.length_append, List.length_cons, List.length_nil]; omega)) vd (dtx m) (by first | (simp; done) | omega) w36 (St.rows (τ := [As.blk lb 72 [v3], As.rb 5 v3 (t ++ [48, 46] ++ zsT (0 - (((dtx m).length : Int) + x)))]) H39) (St.argR (τ := [As.blk lb 72 [v3], As.rb 5 v3 (t ++ [48, 46] ++ zsT (0 - (((dtx m).length : Int) + x)))]) H39 (A := As.iv vd (bys (dtx m))) (.head _) (R := fun w1 => IB w1 vd (dtx m)) (fun w1 h => h))) ?_
  rintro _ w40 ⟨v4, rfl, hX⟩
  have H40 := hX _ _ _ _ H39
  simp only [Zca, Zna] at H40
  refine Z02 ?_
  refine Z0C ?_
  refine Z01 ?_
  refine Zk [6] ?_
  refine Z03 (Z00 (Zm (Z0N rfl rfl rfl (Z08 Z1Y rfl rfl rfl ?_))))
  refine Z04 H40 mem0 rfl rfl underlying26 rfl rfl rfl ?_
  refine Zg (Zg (Z02 (Z01 ?_)))
  refine Z0f ?_
  refine Z0t results7 rfl rfl ?_
  refine ⟨_, rfl, ?_⟩
  have H45 := St.del (.tail .head) (St.del (.tail (.tail .head)) (St.del (.tail (.tail (.tail .head))) (St.del (.tail (.tail (.tail (.tail .head)))) (St.front1 H40))))
  refine ⟨_, 0, _, rfl, ⟨he0 ▸ hB.1, fun h => absurd rfl h, fun _ => ⟨d, shT m x, hk, hltS, ?_, fun h => absurd h ZO, fun h1 h2 => ⟨m, x, hDig, rfl⟩⟩⟩, H45.grows⟩
  rw [Z2R hfin, htS]
  unfold shT
  rw [if_neg hc3, if_pos ZO, Int.zero_sub]
  all_goals simp
 refine Z03 (Z00 (Zm (Zm ?_)))
 refine Z0L rfl rfl underlying26 rfl (by first | exact H21.ii mem0 | exact H21.ibl mem1 | exact H21.ibl mem2 | exact H21.io mem3 | assumption) ?_
 refine Zl ?_
 refine Zg (Z02 (Z01 ?_))
 refine Zk [6, 13, 14, 15, 16, 99] ?_
 (first | refine Z0a rfl ?_ ?_ | refine Z06 rfl ?_ ?_) <;> intro hc5
 ·refine Z00 (Zm (Zm (Zm ?_)))
  refine Z0u (s := 106) (v' := .int .i64 (((((dtx m).length : Int) + x).toNat : Nat) : Int)) rfl (congrArg (Value.int .i64) ZO) ?_
  have H46 := St.frontL (l := [_, _, _]) H21
  simp only [Zca, Zna] at H46
  have H47 := St.frontL (l := [_, _, _]) H46
  simp only [Zca, Zna] at H47
  refine Zc func20 (pointP lb vt (t) (by first | omega | (simp only [List.length_append, List.length_cons, List.length_nil]; omega)) vd (dtx m) ZO ((((dtx m).length : Int) + x).toNat) ZO w20 (St.rows (τ := [As.blk lb 72 [vt], As.rb 5 vt (t), As.iv vd (bys (dtx m))]) H47)) ?_
  rintro _ w48 ⟨v2, rfl, hX⟩
  have H48 := hX _ _ _ _ H47
  simp only [Zca, Zna] at H48
  refine Z02 ?_
  refine Z0C ?_
  refine Z01 (Z03 (Z00 (Zm (Z0N rfl rfl rfl (Z08 Z1Y rfl rfl rfl ?_)))))
  refine Z04 H48 mem0 rfl rfl underlying26 rfl rfl rfl ?_
  refine Zg (Zg (Z02 (Z01 ?_)))
  refine Zk [4, 5] ?_
  refine Z0f ?_
  refine Z0t results7 rfl rfl ?_
  refine ⟨_, rfl, ?_⟩
  have H52 := St.del (.tail .head) (St.del (.tail (.tail .head)) (St.del (.tail (.tail (.tail .head))) (St.front1 H48)))
  refine ⟨_, 0, _, rfl, ⟨he0 ▸ hB.1, fun h => absurd rfl h, fun _ => ⟨d, shT m x, hk, hltS, ?_, fun h => absurd h ZO, fun h1 h2 => ⟨m, x, hDig, rfl⟩⟩⟩, H52.grows⟩
  rw [Z2R hfin, htS]
  unfold shT
  rw [if_neg hc3, if_neg ZO, if_pos ZO, Int.toNat_of_nonneg ZO]
  all_goals simp
 refine Z03 (Z00 (Zm (Zm ?_)))
 have H53 := St.frontL (l := [_, _, _]) H21
 simp only [Zca, Zna] at H53
 have H54 := St.frontL (l := [_, _, _]) H53
 simp only [Zca, Zna] at H54
 refine Z4f rfl rfl rfl func16 rfl rfl (.cons rfl .nil) (putP lb vt (t) (by first | omega | (simp only [List.length_append, List.length_cons, List.length_nil]; omega)) vd (dtx m) (by first | (simp; done) | omega) w20 (St.rows (τ := [As.blk lb 72 [vt], As.rb 5 vt (t)]) H54) (St.argR (τ := [As.blk lb 72 [vt], As.rb 5 vt (t)]) H54 (A := As.iv vd (bys (dtx m))) (.head _) (R := fun w1 => IB w1 vd (dtx m)) (fun w1 h => h))) ?_
 rintro _ w55 ⟨v2, rfl, hX⟩
 have H55 := hX _ _ _ _ H54
 simp only [Zca, Zna] at H55
 refine Z02 (Z01 (Z00 (Zm (Zm (Zm ?_)))))
 refine Z0L rfl rfl underlying26 rfl (by first | exact H55.ibl mem0 | exact H55.io mem1 | exact H55.ii mem2 | exact H55.ibl mem3 | assumption) ?_
 refine Z0A rfl rfl rfl rfl (Z0i ZO) ?_
 have H56 := St.frontL (l := [_]) H55
 simp only [Zca, Zna] at H56
 have H57 := St.frontL (l := [_]) H56
 simp only [Zca, Zna] at H57
 refine Z4f rfl rfl rfl func19 rfl rfl (.cons rfl .nil) (Z3G lb v2 (t ++ dtx m) (by first | omega | (simp only [List.length_append, List.length_cons, List.length_nil]; omega)) ((((dtx m).length : Int) + x) - ((dtx m).length : Int)) ZO w55 (St.rows (τ := [As.blk lb 72 [v2], As.rb 5 v2 (t ++ dtx m)]) H57)) ?_
 rintro _ w58 ⟨v3, rfl, hX⟩
 have H58 := hX _ _ _ _ H57
 simp only [Zca, Zna] at H58
 refine Z02 ?_
 refine Z0C ?_
 refine Z01 ?_
 refine Zk [6] ?_
 refine Z03 (Z00 (Zm (Z0N rfl rfl rfl (Z08 Z1Y rfl rfl rfl ?_))))
 refine Z04 H58 mem0 rfl rfl underlying26 rfl rfl rfl ?_
 refine Zg (Zg (Z02 (Z01 ?_)))
 refine Z0f ?_
 refine Z0t results7 rfl rfl ?_
 refine ⟨_, rfl, ?_⟩
 have H62 := St.del (.tail .head) (St.del (.tail (.tail .head)) (St.del (.tail (.tail (.tail .head))) (St.front1 H58)))
 refine ⟨_, 0, _, rfl, ⟨he0 ▸ hB.1, fun h => absurd rfl h, fun _ => ⟨d, shT m x, hk, hltS, ?_, fun h => absurd h ZO, fun h1 h2 => ⟨m, x, hDig, rfl⟩⟩⟩, H62.grows⟩
 rw [Z2R hfin, htS]
 unfold shT
 rw [if_neg hc3, if_neg ZO, if_neg ZO, show ((dtx m).length : Int) + x - ((dtx m).length : Int) = x by omega]
 all_goals simp
instance (x y t : Int) : Decidable (TopR x y t) := by unfold TopR; infer_instance
set_option exponentiation.threshold 2000 in
theorem sh_wake : ShT 10 13832806255468478464 0 [45, 49, 46, 53] :=
 ⟨by decide +kernel, fun h => absurd rfl h, fun _ => ⟨.f64, [49, 46, 53], rfl, by decide +kernel, by decide +kernel, fun h => absurd h (by decide +kernel), fun _ _ => ⟨15, -1, ⟨0, -1, ⟨by decide +kernel, by decide, fun g h1 h2 => by
  obtain rfl : g = 0 := by omega
  decide +kernel, by decide +kernel⟩, by decide, 0, by decide +kernel, rfl⟩, by decide +kernel⟩⟩⟩
set_option exponentiation.threshold 2000 in
theorem fx_wake : FixT 10 4612811918334230528 0 0 [50] :=
 ⟨by decide +kernel, fun h => absurd rfl h, fun _ => ⟨.f64, rfl, by decide +kernel, by decide +kernel⟩⟩
theorem Z4q (x : Int) (w : World) :
  Z0h P 8 [.int .i64 x] w fun r w' => r = .int .i64 x ∧ w = w' := by
 refine Z0n func8 rfl ntmps8 rfl ?_
 refine Z03 (Z00 (Zg (Z02 (Z01 (Z03 (Z00 (Zm (Zg (Z02 (Z01 ?_))))))))))
 refine Zk [2] ?_
 refine Z0f ?_
 refine Z0q results8 rfl ?_
 refine ⟨_, rfl, ?_⟩
 exact ⟨rfl, rfl⟩
theorem wakesL11  (w : World) (hT : TabP w) :
  Z0h P 9 [] w fun r w' => r = .bool true ∧ Grow w w' [] := by
 refine Z0n func9 rfl ntmps9 rfl ?_
 have H0 := St.start w
 refine Z03 (Z00 (Zg (Z02 (Z01 (Z03 (Z00 ?_))))))
 refine Zc func7 (Z59 10 13832806255468478464 ZO w (Z2B hT (fun k hk hf => H0.ext.block k hk hf))) ?_
 rintro _ w1 ⟨va, e, t, rfl, hA, hG⟩
 have H1 := hG _ _ _ _ H0
 simp only [Zca, Zna] at H1
 obtain ⟨rfl, rfl⟩ := hA.unique ZO sh_wake
 refine Zm ?_
 refine Zx (Zx (Zg ?_))
 refine Zg (Z02 (Z01 ?_))
 refine Zk [1, 2] ?_
 refine Z03 (Z00 ?_)
 refine Zc func14 (FixedP 10 4612811918334230528 ZO 0 ZO w1) ?_
 rintro _ w2 ⟨vb, e2, t2, rfl, hB, hG⟩
 have H2 := hG _ _ _ _ H1
 simp only [Zca, Zna] at H2
 obtain ⟨rfl, rfl⟩ := hB.unique fx_wake
 refine Zm ?_
 refine Zx (Zx (Zg ?_))
 refine Zg (Z02 (Z01 (Z03 (Z00 ?_))))
 refine Zm ?_
 refine Z0Q rfl rfl func8 rfl rfl (.cons rfl .nil) (Z4q _ _) ?_
 refine Ze ?_
 refine Z0u (s := 15) (v' := .bool true) rfl (by simp) ?_
 refine Zm ?_
 refine Zm ?_
 refine Z4A (l := [45, 49, 46, 53]) rfl rfl underlying26 underlying5 underlying9 rfl (by first | exact H2.io mem0 | exact H2.io mem1 | assumption) ?_
 refine l_eqls rfl rfl rfl rfl ?_
 refine Z0u (s := 19) (v' := .bool true) rfl (by simp) ?_
 refine Z1J rfl rfl rfl rfl ?_
 refine Zm ?_
 refine Zm ?_
 refine Z0Q rfl rfl func8 rfl rfl (.cons rfl .nil) (Z4q _ _) ?_
 refine Ze ?_
 refine Z0u (s := 24) (v' := .bool true) rfl (by simp) ?_
 refine Z1J rfl rfl rfl rfl ?_
 refine Zm ?_
 refine Zm ?_
 refine Z4A (l := [50]) rfl rfl underlying26 underlying5 underlying9 rfl (by first | exact H2.io mem0 | exact H2.io mem1 | assumption) ?_
 refine l_eqls rfl rfl rfl rfl ?_
 refine Z0u (s := 29) (v' := .bool true) rfl (by simp) ?_
 refine Z1J rfl rfl rfl rfl ?_
 refine Zg (Z02 (Z01 ?_))
 refine Zk [0] ?_
 refine Z0f ?_
 refine Z0q results9 rfl ?_
 refine ⟨_, rfl, ?_⟩
 have H4 := St.del .head (St.del (.tail .head) H2)
 exact ⟨rfl, H4.grows⟩
theorem est_low : ∀ i : Fin 2200, -340 ≤ estE ((i.val : Int) - 1100) := by decide +kernel
theorem flt_low {d : Kd} {b x y t : Int} (h : Flt d b x y) (ht : estE (Ma.blen x - Ma.blen y) ≤ t) : -340 ≤ t := by
 have h1 := h.bx
 have h2 := h.by'
 have h3 : 0 ≤ Ma.blen x := Ma.blen_nonneg x
 have h4 : 0 ≤ Ma.blen y := Ma.blen_nonneg y
 have := est_low ⟨(Ma.blen x - Ma.blen y + 1100).toNat, ZO⟩
 rw [show (((Ma.blen x - Ma.blen y + 1100).toNat : Nat) : Int) - 1100 = Ma.blen x - Ma.blen y by omega] at this
 omega
def exB (R n t : Int) : List UInt8 := if n + 1 < ((dtx R).length : Int) then ptT ((dtx R).take (n.toNat + 1)) 1 ++ exT (t + 1) else ptT (dtx R) 1 ++ exT t
def ExT (k b n e : Int) (t : List UInt8) : Prop := e = askE k b n ∧ (e ≠ 0 → t = []) ∧ (e = 0 → ∃ d body, kd k = some d ∧ b < 2 * d.S ∧ t = wdT d b body ∧ (b % d.S = 0 → body = ptT (zsT (n + 1)) 1 ++ exT 0) ∧
 (0 < b % d.S → b % d.S < d.I → ∃ x, TopR (fX d (b % d.S)) (fY d (b % d.S)) x ∧ body = exB (rnE (fN (fX d (b % d.S)) (-(n - x))) (fD (fY d (b % d.S)) (-(n - x)))) n x))
theorem ExT.unique {k b n e e' : Int} {t t' : List UInt8} (hb : 0 ≤ b) (h : ExT k b n e t) (g : ExT k b n e' t') : e = e' ∧ t = t' := by
 have he : e = e' := h.1.trans g.1.symm
 subst he
 refine ⟨rfl, ?_⟩
 by_cases h0 : e = 0
 ·obtain ⟨d, bd, hd, _, h1, h2, h3⟩ := h.2.2 h0
  obtain ⟨d', bd', hd', _, g1, g2, g3⟩ := g.2.2 h0
  rw [hd] at hd'
  cases hd'
  have hbd := d.bd
  have hm := Int.emod_nonneg b (show d.S ≠ 0 by omega)
  rcases Int.lt_or_le (b % d.S) d.I with h4 | h4
  ·rcases Int.lt_or_eq_of_le hm with h5 | h5
   ·obtain ⟨x, hx, e1⟩ := h3 h5 h4
    obtain ⟨x', hx', e1'⟩ := g3 h5 h4
    obtain rfl := hx.unique (Z2H _ _) hx'
    rw [h1, g1, e1, e1']
   rw [h1, g1, h2 h5.symm, g2 h5.symm]
  rw [h1, g1]
  exact Z3a h4
 rw [h.2.1 h0, g.2.1 h0]
theorem ex_len {x y t n : Int} (hy : 0 < y) (hn : 0 ≤ n) (h : TopR x y t) : n + 1 ≤ ((dtx (rnE (fN x (-(n - t))) (fD y (-(n - t))))).length : Int) ∧ ((dtx (rnE (fN x (-(n - t))) (fD y (-(n - t))))).length : Int) ≤ n + 2 := by
 obtain ⟨k, rfl⟩ : ∃ k : Nat, n = k := ⟨n.toNat, ZO⟩
 have hr := rn_digs hy h k
 rw [show -((k : Int) - t) = t - k by omega]
 have hp : 0 < rnE (fN x (t - k)) (fD y (t - k)) := by
  rcases Int.lt_or_le 0 (rnE (fN x (t - k)) (fD y (t - k))) with h1 | h1
  ·exact h1
  exfalso
  have : dl (rnE (fN x (t - k)) (fD y (t - k))) = 0 := by unfold dl; rw [show (rnE (fN x (t - k)) (fD y (t - k))).toNat = 0 by omega, Z1w]; rfl
  omega
 rw [Z3w hp]
 omega
theorem firstX (k b : Int) (d : Kd) (hk : kd k = some d) (hb : 0 ≤ b ∧ b ≤ 18446744073709551615) (hltS : b < 2 * d.S) (hf : b % d.S < d.I) (neg : Bool) (w : World) :
  Z0h P 29 [.int .i64 k, .int .u64 b, .agg #[.bool neg, .int .u64 (splM d (b % d.S)), .int .i64 (splE d (b % d.S))]] w fun r w' => ∃ t, r = .int .i64 t ∧ -340 ≤ t ∧ t ≤ 400 ∧ (b % d.S = 0 → t = 0) ∧ (0 < b % d.S → TopR (fX d (b % d.S)) (fY d (b % d.S)) t) ∧ Grow w w' [] := by
 refine Z0n func29 rfl ntmps29 rfl ?_
 have H0 := St.start w
 have hbd := d.bd
 have hms := Z2L d ⟨hb.1, hltS⟩
 have hz : splM d (b % d.S) = 0 ↔ b % d.S = 0 := by
  constructor
  ·intro h
   rcases Int.lt_or_eq_of_le (show 0 ≤ b % d.S by omega) with h1 | h1
   ·have := Z2C (d := d) (b := b % d.S) ⟨h1, hf⟩
    omega
   exact h1.symm
  intro h
  unfold splM
  rw [h, Int.zero_emod, if_pos ZO]
 refine Z03 (Z00 ?_)
 refine Z1z H0 rfl rfl rfl (fun b0_0 w1 H1 => ?_)
 refine Zg (Z02 (Z01 (Z03 (Z03 (Z00 (Z08 Z27 rfl rfl rfl ?_))))))
 refine Z04 H1 mem0 rfl rfl underlying22 rfl rfl rfl ?_
 refine Ze ?_
 refine Z02 (Z01 ?_)
 refine Zk [0, 1, 5, 15] ?_
 (first | refine Z0a rfl ?_ ?_ | refine Z06 rfl ?_ ?_) <;> intro hc0
 ·refine Z03 (Z00 (Zg (Z02 (Z01 ?_))))
  refine Z0f ?_
  refine Z05 ?_
  refine Z0q results29 rfl ?_
  refine ⟨_, rfl, ?_⟩
  have H2 := St.del .head H1
  exact ⟨0, rfl, ZO, ZO, fun _ => rfl, fun h => absurd (hz.1 hc0) ZO, H2.grows⟩
 have hpos : 0 < b % d.S := by
  have : ¬ b % d.S = 0 := fun h => hc0 (hz.2 h)
  omega
 have hfl := Z4s ⟨hpos, hf⟩
 obtain ⟨t, ht, het, hlo4, hhi3, _⟩ := Z4i hfl
 have hlo3 := flt_low hfl het
 refine Z0c (Z01 ?_)
 refine Zk [0, 1, 5] ?_
 refine Z03 (Z00 (Zm (Zm ?_)))
 refine Zc func17 (DigitsF k b hb w1) ?_
 rintro _ w3 ⟨m, x, er, rfl, hE, hG⟩
 have H3 := hG _ _ _ _ H1
 simp only [Zca, Zna] at H3
 obtain rfl : er = 0 := hE.1.trans (ofE_is hk hltS ⟨hpos, hf⟩)
 obtain ⟨d', hd', _, _, _, hDig⟩ := hE.2.2 rfl
 rw [hk] at hd'
 cases hd'
 have hbdE := hDig.bd ⟨hpos, hf⟩
 have hml := dtx_le (x := m) ZO
 have hsz := size_of ⟨hpos, hf⟩ hDig ht
 rw [← Z3w hbdE.1] at hsz
 have hqz := q_zero (Int.le_of_lt hfl.hx) hfl.hy ht (e := (((dtx m).length : Int) + x - 1))
 refine Zm ?_
 refine Zx (Zx (Zx (Zg (Zg (Zg (Z02 (Z01 (Z03 (Z00 (Zm ?_))))))))))
 refine Zp func38 (countD m ZO w3) ?_
 refine Zm ?_
 refine Z0w rfl rfl rfl rfl (Z0i ZO) ?_
 refine Z0A rfl rfl rfl rfl (Z0i ZO) ?_
 refine Zg (Z02 (Z01 ?_))
 refine Zk [5, 10] ?_
 refine Z03 (Z03 (Z00 ?_))
 refine Z0b H3 mem0 rfl rfl underlying68 rfl tz68 rfl (.take (.take (.take .nil))) ?_
 refine Zm ?_
 refine Z1K rfl rfl rfl (Z0i ZO) ?_
 refine Zc func51 (partsP neg d (b % d.S) (0 - (((dtx m).length : Int) + x - 1)) ZO ZO w3) ?_
 rintro _ w4 ⟨vq, lq, rfl, hcq, hG⟩
 have H4 := hG _ _ _ _ H3
 simp only [Zca, Zna] at H4
 have hql : (lq.length : Int) = 0 ↔ fQ (fX d (b % d.S)) (fY d (b % d.S)) (((dtx m).length : Int) + x - 1) = 0 := by
  have h := hcq.nil_iff ZO
  rw [show -(0 - (((dtx m).length : Int) + x - 1)) = (((dtx m).length : Int) + x - 1) by omega] at h
  rw [show fQ (fX d (b % d.S)) (fY d (b % d.S)) (((dtx m).length : Int) + x - 1) = fN (fX d (b % d.S)) (((dtx m).length : Int) + x - 1) / fD (fY d (b % d.S)) (((dtx m).length : Int) + x - 1) from rfl, ← h, ← List.length_eq_zero_iff]
  omega
 have hlq : lq.length ≤ 1048576 := by
  have hxy := Z54 (d := d) (b := b % d.S) ZO
  have hN0 := Z1C hxy.1 (-(0 - (((dtx m).length : Int) + x - 1)))
  have hNb := Z4h hxy.1 (e := -(0 - (((dtx m).length : Int) + x - 1))) ZO ZO
  have hD0 := Z1W (Z2H d (b % d.S)) (-(0 - (((dtx m).length : Int) + x - 1)))
  have h1 := Int.ediv_le_self (fD (fY d (b % d.S)) (-(0 - (((dtx m).length : Int) + x - 1)))) hN0
  have h2 := Ma.blen_mono (Int.ediv_nonneg hN0 (Int.le_of_lt hD0)) h1
  have := Z0Y hcq (k := 2881) (Int.le_trans h2 hNb)
  omega
 refine Zm ?_
 refine Zx (Zx (Zg (Zg (Z02 (Z01 (Z03 (Z00 (Zm ?_))))))))
 refine Z0K rfl rfl underlying105 rfl (by first | exact H4.io mem0 | exact H4.ibl mem1 | assumption) ?_
 refine Ze ?_
 refine Z02 (Z01 ?_)
 refine Zk [10, 37] ?_
 (first | refine Z0a rfl ?_ ?_ | refine Z06 rfl ?_ ?_) <;> intro hc1
 ·refine Z00 (Zm ?_)
  refine Z0A rfl rfl rfl rfl (Z0i ZO) ?_
  refine Zg (Z02 (Z01 (Z03 (Z00 (Zm (Zg (Z02 (Z01 ?_))))))))
  refine Zk [6] ?_
  refine Z0f ?_
  refine Z0q results29 rfl ?_
  refine ⟨_, rfl, ?_⟩
  have H6 := St.del .head (St.del (.tail .head) H4)
  refine ⟨t, congrArg (Value.int .i64) (by have := hqz.1 (hql.1 hc1); omega), ZO, ZO, fun h => absurd h ZO, fun _ => ht, H6.grows⟩
 refine Z0c (Z01 (Z03 (Z00 (Zm (Zg (Z02 (Z01 ?_)))))))
 refine Zk [6] ?_
 refine Z0f ?_
 refine Z0q results29 rfl ?_
 refine ⟨_, rfl, ?_⟩
 have H8 := St.del .head (St.del (.tail .head) H4)
 refine ⟨t, congrArg (Value.int .i64) (by have : ¬ t < (((dtx m).length : Int) + x - 1) := fun h => hc1 (hql.2 (hqz.2 h)); omega), ZO, ZO, fun h => absurd h ZO, fun _ => ht, H8.grows⟩
theorem ExponentP (k b : Int) (hb : 0 ≤ b ∧ b ≤ 18446744073709551615) (n : Int) (hn : -9223372036854775808 ≤ n ∧ n ≤ 9223372036854775807) (w : World) (hT : TabP w) :
  Z0h P 13 [.int .i64 k, .int .u64 b, .int .i64 n] w fun r w' => ∃ v e t, r = .tuple #[v, .int .i64 e] ∧ ExT k b n e t ∧ Grow w w' [As.rb 5 v t] := by
 refine Z0n func13 rfl ntmps13 rfl ?_
 have H0 := St.start w
 have hTT : ∀ w1 : World, (∀ k, k < w.heap.size → ¬ Z0G k → w1.heap[k]? = w.heap[k]?) → TabP w1 := fun w1 h => Z2B hT h
 refine Z03 (Z00 (Zg (Zg (Z02 (Z01 (Z03 (Z00 (Zm (Zm (Zm ?_))))))))))
 refine Zc func28 (askedP k b hb n hn w) ?_
 rintro _ w1 ⟨p, n1, n2, n3, over, e, A1, A2, rfl, hA, hG⟩
 have H1 := hG _ _ _ _ H0
 simp only [Zca, Zna] at H1
 refine Zm ?_
 refine Zx (Zx (Zx (Zx ?_)))
 refine Z0z H1 ta68 rfl rfl (fun b1_9 w2 H2 => ?_)
 refine Zg ?_
 refine Z09 H2 .head (.zero (.zero (.zero .nil))) rfl tz68 rfl rfl ZC (fun w3 H3 => ?_)
 refine Zg (Zg (Z02 (Z01 ?_)))
 refine Zk [0, 1, 2, 8, 9, 10, 11] ?_
 refine Z03 (Z0e (Z03 (Z00 (Zm ?_))))
 refine Zo ?_
 refine Zg (Z02 (Z01 ?_))
 (first | refine Z0a rfl ?_ ?_ | refine Z06 rfl ?_ ?_) <;> intro hc0
 ·refine Z03 (Z00 (Zm (Zg (Zg (Z02 (Z01 ?_))))))
  refine Zk [6, 7] ?_
  refine Z0f ?_
  refine Z0m ?_
  refine Z05 ?_
  refine Z0t results13 rfl rfl ?_
  refine ⟨_, rfl, ?_⟩
  have H7 := St.del .head (St.del (.tail .head) (St.del (.tail (.tail .head)) (St.front2 H3)))
  exact ⟨_, e, [], rfl, ⟨hA.1, fun _ => rfl, fun h => absurd h hc0⟩, (H7.nil 5).grows⟩
 have he0 : e = 0 := by omega
 obtain ⟨hn0, hn40, hB⟩ := hA.2 he0
 obtain ⟨d, lb, vt, t, hk, hltS, rfl, rfl, rfl, htl, hov, hnov⟩ := hB.2 rfl
 have hbd := d.bd
 have hms := Z2L d ⟨hb.1, hltS⟩
 refine Z03 (Z00 (Zm (Zg (Z02 (Z01 ?_)))))
 (first | refine Z0a rfl ?_ ?_ | refine Z06 rfl ?_ ?_) <;> intro hc1
 ·refine Z03 (Z00 (Zm (Z0N rfl rfl rfl (Z08 Z1Y rfl rfl rfl ?_))))
  refine Z04 H3 mem1 rfl rfl underlying26 rfl rfl rfl ?_
  refine Zg (Zg (Z02 (Z01 ?_)))
  refine Zk [6, 7] ?_
  refine Z0f ?_
  refine Z0m ?_
  refine Z05 ?_
  refine Z0t results13 rfl rfl ?_
  refine ⟨_, rfl, ?_⟩
  have H10 := St.del (.tail .head) (St.del (.tail (.tail .head)) (St.front2 H3))
  exact ⟨_, 0, _, rfl, ⟨he0 ▸ hA.1, fun h => absurd rfl h, fun _ => ⟨d, (if b % d.S = 0 then ptT (zsT (n + 1)) 1 ++ exT 0 else []), hk, hltS, by rw [(hov hc1).2]; exact Z3a (hov hc1).1, fun h => if_pos h, fun h1 h2 => absurd h2 (by have := (hov hc1).1; omega)⟩⟩, H10.grows⟩
 obtain ⟨hfin, htS, hR⟩ := hnov (by simpa using hc1)
 obtain ⟨rfl, rfl, rfl⟩ : n1 = decide (d.S ≤ b) ∧ n2 = splM d (b % d.S) ∧ n3 = splE d (b % d.S) := by simpa using hR
 have hz : splM d (b % d.S) = 0 ↔ b % d.S = 0 := by
  constructor
  ·intro h
   rcases Int.lt_or_eq_of_le (show 0 ≤ b % d.S by omega) with h1 | h1
   ·have := Z2C (d := d) (b := b % d.S) ⟨h1, hfin⟩
    omega
   exact h1.symm
  intro h
  unfold splM
  rw [h, Int.zero_emod, if_pos ZO]
 refine Z0c ?_
 refine Z0C ?_
 refine Z01 (Z03 (Z00 (Zm (Zm ?_))))
 refine Z0b H3 mem0 rfl rfl underlying68 rfl tz68 rfl (.take (.take (.take .nil))) ?_
 refine Zc func29 (firstX k b d hk hb hltS hfin (decide (d.S ≤ b)) w3) ?_
 rintro _ w11 ⟨x, rfl, hx1, hx2, hx0, hxt, hG⟩
 have H11 := hG _ _ _ _ H3
 simp only [Zca, Zna] at H11
 refine Zg (Zg (Z02 (Z01 ?_)))
 refine Zk [2, 8, 9, 12] ?_
 refine Z12 (ι := Value × List UInt8) (fun (z0 : Value × List UInt8) (w' : World) => match z0 with | ⟨vd2, ds⟩ => St w w.heap.size Z0G ([As.iv vd2 (bys ds), As.blk lb 72 [vt], As.rb 5 vt t]) w' ∧ (b % d.S = 0 → ds = zsT (n + 1)) ∧ (0 < b % d.S → ds = dtx (rnE (fN (fX d (b % d.S)) (-(n - x))) (fD (fY d (b % d.S)) (-(n - x))))) ∧ n + 1 ≤ (ds.length : Int) ∧ (ds.length : Int) ≤ n + 2) (fun (z0 : Value × List UInt8) => match z0 with | ⟨vd2, ds⟩ => [(13, vd2)]) [2, 8, 12] (.cons rfl (.cons rfl (.cons rfl .nil))) ?_ ?_
 ·refine Z03 (Z00 (Z08 Z27 rfl rfl rfl ?_))
  refine Z04 H11 mem0 rfl rfl underlying22 rfl rfl rfl ?_
  refine Ze ?_
  refine Z02 (Z01 ?_)
  (first | refine Z0a rfl ?_ ?_ | refine Z06 rfl ?_ ?_) <;> intro hc2
  ·refine Z03 (Z00 ?_)
   refine Z0D rfl rfl pl72 ta72 .nil ?_
   refine Z1z H11 rfl rfl rfl (fun b8_1 w12 H12 => ?_)
   refine Zg (Z02 (Z01 ?_))
   refine Zk [2, 8, 12, 14] ?_
   refine Z03 (Z00 ?_)
   have H13 := H12.nil 5
   refine Zm (Zm ?_)
   refine Z0w rfl rfl rfl rfl (Z0i ZO) ?_
   have H14 := St.frontL (l := [_]) H13
   simp only [Zca, Zna] at H14
   refine Zc func19 (Z3G b8_1 (.slice none 0 0) [] (by simp) (n + 1) ZO w12 (St.rows (τ := [As.blk b8_1 72 [.slice none 0 0], As.rb 5 (.slice none 0 0) []]) H14)) ?_
   rintro _ w15 ⟨v1, rfl, hX⟩
   have H15 := hX _ _ _ _ H14
   simp only [Zca, Zna] at H15
   refine Z02 (Z01 (Z00 (Zm (Z0N rfl rfl rfl (Z08 Z1Y rfl rfl rfl ?_)))))
   refine Z04 H15 mem0 rfl rfl underlying26 rfl rfl rfl ?_
   refine Zg (Z02 ?_)
   have H16 := St.frontL (l := [_, _, _, _]) H15
   simp only [Zca, Zna] at H16
   have H17 := St.frontL (l := [_, _, _, _]) H16
   simp only [Zca, Zna] at H17
   have H18 := St.frontL (l := [_, _, _]) H17
   simp only [Zca, Zna] at H18
   have H20 := St.del (.tail (.tail (.tail .head))) (St.del (.tail (.tail (.tail (.tail .head)))) H18)
   refine Z0v (v1, zsT (n + 1)) ?_ (.cons rfl (.cons rfl (.cons rfl .nil))) ?_
   ·have hzl : (zsT (n + 1)).length = (n + 1).toNat := by unfold zsT; rw [List.length_replicate]
    exact ⟨St.ro_iv H20, fun _ => rfl, fun h => absurd (hz.1 hc2) ZO, ZO, ZO⟩
   exact (.cons rfl ZN .nil)
  have hpos : 0 < b % d.S := by
   have : ¬ b % d.S = 0 := fun h => hc2 (hz.2 h)
   omega
  have hel := ex_len (Z2H d (b % d.S)) hn0 (hxt hpos)
  refine Z00 ?_
  refine Z0b H11 mem0 rfl rfl underlying68 rfl tz68 rfl (.take (.take (.take .nil))) ?_
  refine Zm (Zm ?_)
  refine Z0A rfl rfl rfl rfl (Z0i ZO) ?_
  refine Zc func30 (roundedP (decide (d.S ≤ b)) d (b % d.S) (n - x) ZO ZO w11) ?_
  rintro vd w21 ⟨_, rfl, hG⟩
  have H21 := hG _ _ _ _ H11
  simp only [Zca, Zna] at H21
  refine Zg (Z02 ?_)
  have H22 := St.frontL (l := [_, _, _]) H21
  simp only [Zca, Zna] at H22
  have H23 := St.frontL (l := [_, _, _]) H22
  simp only [Zca, Zna] at H23
  have H24 := St.frontL (l := [_, _]) H23
  simp only [Zca, Zna] at H24
  have H25 := St.del (.tail (.tail (.tail .head))) H24
  refine Z0v (vd, dtx (rnE (fN (fX d (b % d.S)) (-(n - x))) (fD (fY d (b % d.S)) (-(n - x))))) ?_ (.cons rfl (.cons rfl (.cons rfl .nil))) ?_
  ·exact ⟨H25, fun h => absurd h ZO, fun _ => rfl, ZO, ZO⟩
  exact (.cons rfl ZN .nil)
 rintro ⟨vd2, ds⟩ w26 ⟨H26, hds0, hds1, hdl1, hdl2⟩
 show RunC P _ _ _ (_ :: _) _
 refine Z12 (ι := Value × List UInt8 × Int) (fun (z0 : Value × List UInt8 × Int) (w' : World) => match z0 with | ⟨vd3, ds3, x3⟩ => St w w.heap.size Z0G ([As.iv vd3 (bys ds3), As.blk lb 72 [vt], As.rb 5 vt t]) w' ∧ 1 ≤ ds3.length ∧ ds3.length ≤ 60 ∧ -400 ≤ x3 ∧ x3 ≤ 401 ∧ (b % d.S = 0 → ds3 = zsT (n + 1) ∧ x3 = 0) ∧ (0 < b % d.S → ptT ds3 1 ++ exT x3 = exB (rnE (fN (fX d (b % d.S)) (-(n - x))) (fD (fY d (b % d.S)) (-(n - x)))) n x)) (fun (z0 : Value × List UInt8 × Int) => match z0 with | ⟨vd3, ds3, x3⟩ => [(12, .int .i64 x3), (13, vd3)]) [8] (.cons rfl .nil) ?_ ?_
 ·refine Z03 (Z00 (Zm ?_))
  refine Z0L rfl rfl underlying26 rfl (by first | exact H26.ii mem0 | exact H26.ibl mem1 | exact H26.io mem2 | assumption) ?_
  refine Zm ?_
  refine Z0w rfl rfl rfl rfl (Z0i ZO) ?_
  refine Zw ?_
  refine Z02 (Z01 ?_)
  refine Zk [2, 8, 12, 13, 60] ?_
  (first | refine Z0a rfl ?_ ?_ | refine Z06 rfl ?_ ?_) <;> intro hc3
  ·refine Z03 (Z00 (Zm (Zm ?_)))
   refine Z0w rfl rfl rfl rfl (Z0i ZO) ?_
   refine Z0u (s := 63) (v' := .int .i64 ((n.toNat + 1 : Nat) : Int)) rfl (congrArg (Value.int .i64) ZO) ?_
   refine Z2D (l := 0) (h := n.toNat + 1) rfl rfl underlying26 tz5 rfl rfl rfl rfl (by first | exact H26.ii mem0 | exact H26.ibl mem1 | exact H26.io mem2 | assumption) ZD ZD (.inl rfl) (by simp) ZO ZI (fun v13_3 h13_3 ho13_3 => ?_)
   have hct3 : (List.take (n.toNat + 1) (bys ds)).drop 0 = bys (ds.take (n.toNat + 1)) := by simp [bys, List.map_take]
   have H27 := St.iv_cut H26 (by rw [hct3] at h13_3; exact h13_3) ho13_3
   refine Zg (Z02 (Z01 (Z00 (Zm ?_))))
   refine Z0w rfl rfl rfl rfl (Z0i ZO) ?_
   refine Zg (Z02 ?_)
   refine Z0v (v13_3, ds.take (n.toNat + 1), x + 1) ?_ (.cons rfl .nil) ?_
   ·have hzl : (zsT (n + 1)).length = (n + 1).toNat := by unfold zsT; rw [List.length_replicate]
    exact ⟨H27, by rw [List.length_take]; omega, by rw [List.length_take]; omega, ZO, ZO, fun h => absurd hc3 (by rw [hds0 h]; omega), fun h => by unfold exB; rw [hds1 h] at hc3 ⊢; rw [if_pos ZO]⟩
   exact (.cons rfl ZN (.cons rfl ZN .nil))
  refine Z0c ?_
  refine Z0v (vd2, ds, x) ?_ (.cons rfl .nil) ?_
  ·exact ⟨H26, ZO, ZO, ZO, ZO, fun h => ⟨hds0 h, hx0 h⟩, fun h => by unfold exB; rw [hds1 h] at hc3 ⊢; rw [if_neg ZO]⟩
  exact (.cons rfl ZN (.cons rfl ZN .nil))
 rintro ⟨vd3, ds3, x3⟩ w28 ⟨H28, hd31, hd32, hx31, hx32, hz3, hn3⟩
 show RunC P _ _ _ (_ :: _) _
 refine Z03 (Z00 ?_)
 have hpt : (ptT ds3 1).length ≤ 70 := by unfold ptT; split <;> simp <;> omega
 refine Zm (Zm ?_)
 have H29 := St.frontL (l := [_, _]) H28
 simp only [Zca, Zna] at H29
 have H30 := St.frontL (l := [_, _]) H29
 simp only [Zca, Zna] at H30
 refine Zc func20 (pointP lb vt t ZO vd3 ds3 ZO 1 ZO w28 (St.rows (τ := [As.blk lb 72 [vt], As.rb 5 vt t, As.iv vd3 (bys ds3)]) H30)) ?_
 rintro _ w31 ⟨v3, rfl, hX⟩
 have H31 := hX _ _ _ _ H30
 simp only [Zca, Zna] at H31
 refine Z02 (Z01 ?_)
 refine Zk [8, 12] ?_
 refine Z03 (Z00 (Zm (Zm ?_)))
 refine Zc func21 (expP lb v3 (t ++ ptT ds3 1) (by simp only [List.length_append]; omega) x3 ZO w31 (St.rows (τ := [As.blk lb 72 [v3], As.rb 5 v3 (t ++ ptT ds3 1)]) H31) (St.argH (τ := [As.blk lb 72 [v3], As.rb 5 v3 (t ++ ptT ds3 1)]) H31 hTT)) ?_
 rintro _ w32 ⟨v4, rfl, hX⟩
 have H32 := hX _ _ _ _ H31
 simp only [Zca, Zna] at H32
 refine Z02 (Z01 (Z03 (Z00 (Zm (Z0N rfl rfl rfl (Z08 Z1Y rfl rfl rfl ?_))))))
 refine Z04 H32 mem0 rfl rfl underlying26 rfl rfl rfl ?_
 refine Zg (Zg (Z02 (Z01 ?_)))
 refine Zk [6, 7] ?_
 refine Z0f ?_
 refine Z0t results13 rfl rfl ?_
 refine ⟨_, rfl, ?_⟩
 have H35 := St.del (.tail .head) (St.del (.tail (.tail .head)) (St.front1 H32))
 refine ⟨_, 0, _, rfl, ⟨he0 ▸ hA.1, fun h => absurd rfl h, fun _ => ⟨d, ptT ds3 1 ++ exT x3, hk, hltS, by rw [Z2R hfin, htS, List.append_assoc], fun h => by rw [(hz3 h).1, (hz3 h).2], fun h1 h2 => ⟨x, hxt h1, hn3 h1⟩⟩⟩, H35.grows⟩
end Go.Proofs.YtfomhfbmmjhljaaGreatDoor.W
