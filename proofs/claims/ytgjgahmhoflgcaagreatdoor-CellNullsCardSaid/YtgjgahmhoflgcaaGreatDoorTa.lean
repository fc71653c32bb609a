/- cell: types, nulls, bools; whole numbers read -/
import Derived.Test.YtgjgahmhoflgcaaGreatDoorQg
set_option linter.unusedVariables false
set_option linter.unusedSimpArgs false
set_option maxRecDepth 10000
namespace Go.Proofs.YtgjgahmhoflgcaaGreatDoor.W
open Go.Vc Go.RowKit Tryz
def okT (k s : Int) : Prop := (1 ≤ k ∧ k ≤ 16) ∧ 0 ≤ s ∧ s ≤ (if k = 12 then 18 else 0)
instance (k s : Int) : Decidable (okT k s) := by unfold okT; infer_instance
abbrev u64I (b : Int) : Prop := 0 ≤ b ∧ b ≤ 18446744073709551615
abbrev i64I (b : Int) : Prop := -9223372036854775808 ≤ b ∧ b ≤ 9223372036854775807
theorem checkT (k s : Int) (w : World) :
  Z0f P 32 [.agg #[.int .i64 k, .int .i64 s]] w fun r w' => r = .int .i64 (if okT k s then 0 else 170) ∧ Grow w w' [] := by
 refine Z0o func32 rfl ntmps32 rfl ?_
 have H0 := St.start w
 refine Z03 (Z00 ?_)
 refine Z57 H0 rfl rfl rfl (fun b0_0 w1 H1 => ?_)
 refine Zg (Z01 (Z02 ?_))
 refine Zk [1] ?_
 refine Z03 (Z00 (Zg (Z01 (Z02 ?_))))
 refine Z1q (ι := Int) (fun (mo : Int) (w' : World) => St w w.heap.size Z0J ([As.blk b0_0 23 [.int .i64 k, .int .i64 s]]) w' ∧ mo = if k = 12 then 18 else 0) (fun (mo : Int) => [(3, .int .i64 mo)]) [1] (.cons rfl .nil) ?_ ?_
 ·refine Z03 (Z00 (Z09 Z5p rfl rfl rfl ?_))
  refine Z05 H1 mem0 rfl rfl underlying3 rfl rfl rfl ?_
  refine Ze ?_
  refine Z01 (Z02 ?_)
  refine Zk [1, 3, 6] ?_
  (first | refine Z0c rfl ?_ ?_ | refine Z08 rfl ?_ ?_) <;> intro hc0
  ·refine Z00 (Zg (Z01 ?_))
   refine Z0w (18) ?_ (.cons rfl .nil) ?_
   ·exact ⟨H1, (if_pos ZO).symm⟩
   exact (.cons rfl ZN .nil)
  refine Z0a ?_
  refine Z0w (0) ?_ (.cons rfl .nil) ?_
  ·exact ⟨H1, (if_neg ZO).symm⟩
  exact (.cons rfl ZN .nil)
 rintro mo w2 ⟨H2, hmo⟩
 subst hmo
 show RunC P _ _ _ (_ :: _) _
 refine Z03 (Z03 (Z00 (Z09 Z5p rfl rfl rfl ?_)))
 refine Z05 H2 mem0 rfl rfl underlying3 rfl rfl rfl ?_
 refine Zl ?_
 refine Zm ?_
 apply l_or 3 [1, 3] rfl rfl (.cons rfl (.cons rfl (.cons rfl .nil))) rfl rfl (fun _ => rfl) rfl rfl rfl
 ·intro hg4_4
  refine Z09 Z5p rfl rfl rfl ?_
  refine Z05 H2 mem0 rfl rfl underlying3 rfl rfl rfl ?_
  refine Zw ?_
  refine Z01 ?_
  exact Z0O rfl (.cons rfl (ZF hg4_4) (.cons rfl rfl (.cons rfl rfl .nil)))
  all_goals infer_instance
 refine Zm ?_
 apply l_or 3 [1, 3] rfl rfl (.cons rfl (.cons rfl (.cons rfl .nil))) rfl rfl (fun _ => rfl) rfl rfl rfl
 ·intro hg4_9
  refine Z09 fo23_1 rfl rfl rfl ?_
  refine Z05 H2 mem0 rfl rfl underlying3 rfl rfl rfl ?_
  refine Zl ?_
  refine Z01 ?_
  exact Z0O rfl (.cons rfl (ZF hg4_9) (.cons rfl rfl (.cons rfl rfl .nil)))
  all_goals infer_instance
 refine Zm ?_
 apply l_or 4 [] rfl rfl (.cons rfl .nil) rfl rfl (fun _ => rfl) rfl rfl rfl
 ·intro hg4_14
  refine Z09 fo23_1 rfl rfl rfl ?_
  refine Z05 H2 mem0 rfl rfl underlying3 rfl rfl rfl ?_
  refine Zm ?_
  refine Zw ?_
  refine Z01 ?_
  exact Z0O rfl (.cons rfl (ZF hg4_14) .nil)
  all_goals infer_instance
 refine Z01 (Z02 ?_)
 refine Zk [25] ?_
 (first | refine Z0c rfl ?_ ?_ | refine Z08 rfl ?_ ?_) <;> intro hc1
 ·refine Z03 (Z00 (Zg (Z01 (Z02 ?_))))
  refine Zk [2] ?_
  refine Z0i ?_
  refine Z07 ?_
  refine Z0e results32 rfl ?_
  refine ⟨_, rfl, ?_⟩
  have H3 := St.del .head H2
  refine ⟨?_, H3.grows⟩
  rw [if_neg (fun h => by unfold okT at h; omega)]
 refine Z0a (Z02 ?_)
 refine Zk [] ?_
 refine Z03 (Z00 (Zg (Z01 (Z02 ?_))))
 refine Z0i ?_
 refine Z0e results32 rfl ?_
 refine ⟨_, rfl, ?_⟩
 have H4 := St.del .head H2
 refine ⟨?_, H4.grows⟩
 rw [if_pos (show okT k s by unfold okT; omega)]
theorem textsC (k s : Int) (w : World) :
  Z0f P 33 [.agg #[.int .i64 k, .int .i64 s]] w fun r w' => r = .bool (decide (k = 15 ∨ k = 16)) ∧ Grow w w' [] := by
 refine Z0o func33 rfl ntmps33 rfl ?_
 have H0 := St.start w
 refine Z03 (Z00 ?_)
 refine Z57 H0 rfl rfl rfl (fun b0_0 w1 H1 => ?_)
 refine Zg (Z01 (Z02 ?_))
 refine Zk [1] ?_
 refine Z03 (Z00 (Z09 Z5p rfl rfl rfl ?_))
 refine Z05 H1 mem0 rfl rfl underlying3 rfl rfl rfl ?_
 refine Ze ?_
 refine Zm ?_
 apply l_or 3 [] rfl rfl (.cons rfl .nil) rfl rfl (fun _ => rfl) rfl rfl rfl
 ·intro hg1_4
  refine Z09 Z5p rfl rfl rfl ?_
  refine Z05 H1 mem0 rfl rfl underlying3 rfl rfl rfl ?_
  refine Ze ?_
  refine Z01 ?_
  exact Z0O rfl (.cons rfl (ZF hg1_4) .nil)
  all_goals infer_instance
 refine Zg (Z01 (Z02 ?_))
 refine Zk [2] ?_
 refine Z0i ?_
 refine Z0e results33 rfl ?_
 refine ⟨_, rfl, ?_⟩
 have H2 := St.del .head H1
 exact ⟨rfl, H2.grows⟩
theorem isNullF (cm qu fr to : Int) (nl t : List UInt8) (tr q : Bool) (v : Value) (hL : t.length ≤ 1099511627776) (w : World) (hv : IB w v t) :
  Z0f P 46 [.agg #[.int .u8 cm, .int .u8 qu, str nl, .bool tr], .agg #[.int .i64 fr, .int .i64 to, .bool q, v]] w fun r w' => r = .bool (decide (q = false ∧ t = nl)) ∧ Grow w w' [] := by
 refine Z0o func46 rfl ntmps46 rfl ?_
 have H0 := St.start w
 have hv1 : v.oneCell' = true := by
  obtain ⟨A, c, rfl, _⟩ := hv
  rfl
 refine Z03 (Z00 ?_)
 refine Z57 H0 rfl rfl rfl (fun b0_0 w1 H1 => ?_)
 refine Z57 H1 rfl rfl rfl (fun b0_1 w2 H2 => ?_)
 refine Zg (Z01 (Z02 ?_))
 refine Zk [2, 3] ?_
 refine Z03 (Z00 (Z09 fo58_2 rfl rfl rfl ?_))
 refine Z05 H2 mem0 rfl rfl underlying4 rfl rfl rfl ?_
 refine Z3v rfl rfl rfl ?_
 refine Z0j (s := 7) (v' := .bool (decide (q = false))) rfl (by cases q <;> rfl) ?_
 refine Zm ?_
 apply Z47 6 [] rfl rfl (.cons rfl .nil) rfl rfl (fun _ => rfl) rfl rfl rfl
 ·intro hg1_4
  refine Z09 Z6Q rfl rfl rfl ?_
  refine Z05 H2 mem0 rfl rfl underlying25 rfl rfl rfl ?_
  refine Z6k (l := t) rfl rfl underlying25 underlying5 underlying9 rfl (by first | exact H2.ibl mem0 | exact H2.ibl mem1 | exact H2.iarg hv | assumption) ?_
  refine Z09 fo52_2 rfl rfl rfl ?_
  refine Z05 H2 mem1 rfl rfl underlying9 rfl rfl rfl ?_
  refine Z5W rfl rfl rfl rfl ?_
  refine Z01 ?_
  exact Z0O rfl (.cons rfl (ZT hg1_4) .nil)
  all_goals infer_instance
 refine Zg (Z01 (Z02 ?_))
 refine Zk [4] ?_
 refine Z0i ?_
 refine Z0e results46 rfl ?_
 refine ⟨_, rfl, ?_⟩
 have H4 := St.del .head (St.del (.tail .head) H2)
 exact ⟨rfl, H4.grows⟩
theorem truthC (c : Value) (k s : Int) (t : List UInt8) (v : Value) (hL : t.length ≤ 1099511627776) (w : World) (hv : IB w v t) :
  Z0f P 79 [c, .agg #[.int .i64 k, .int .i64 s], v] w fun r w' => ∃ b e, r = .tuple #[.int .u64 b, .int .i64 e] ∧ (0 ≤ b ∧ b ≤ 1) ∧ (e = 0 ∨ e = 211) ∧ Grow w w' [] := by
 refine Z0o func79 rfl ntmps79 rfl ?_
 have H0 := St.start w
 refine Zk [1, 2] ?_
 refine Z03 (Z00 ?_)
 refine Z57 H0 rfl rfl rfl (fun b0_0 w1 H1 => ?_)
 refine Zg (Zg (Z01 (Z02 ?_)))
 refine Zk [2] ?_
 refine Z03 (Z03 (Z00 (Zm ?_)))
 refine Z6k (l := t) rfl rfl underlying25 underlying5 underlying9 rfl (by first | exact H1.ibl mem0 | exact H1.iarg hv | assumption) ?_
 refine Z01 (Z02 ?_)
 refine Zk [9] ?_
 refine Z0d (Z03 (Z03 (Z00 ?_)))
 refine Z5W rfl rfl rfl rfl ?_
 refine Zg (Z01 (Z02 ?_))
 refine Zk [9, 10] ?_
 (first | refine Z0c rfl ?_ ?_ | refine Z08 rfl ?_ ?_) <;> intro hc0
 ·refine Z0a (Z02 ?_)
  (first | refine Z0c rfl ?_ ?_ | refine Z08 rfl ?_ ?_) <;> intro hc1
  ·refine Z03 (Z00 (Zg (Zg (Z01 (Z02 ?_)))))
   refine Zk [6, 7] ?_
   refine Z0i ?_
   refine Z0k ?_
   refine Z07 ?_
   refine Z0P results79 rfl rfl ?_
   refine ⟨_, rfl, ?_⟩
   have H2 := St.del .head H1
   exact ⟨_, _, rfl, ZO, ZO, H2.grows⟩
  refine Z03 (Z03 (Z00 ?_))
  refine Z5W rfl rfl rfl rfl ?_
  refine Zg (Z01 (Z02 ?_))
  refine Zk [9, 13] ?_
  (first | refine Z0c rfl ?_ ?_ | refine Z08 rfl ?_ ?_) <;> intro hc2
  ·refine Z0a (Z02 ?_)
   refine Zk [13] ?_
   (first | refine Z0c rfl ?_ ?_ | refine Z08 rfl ?_ ?_) <;> intro hc3
   ·refine Z03 (Z00 (Zg (Zg (Z01 (Z02 ?_)))))
    refine Zk [6, 7] ?_
    refine Z0i ?_
    refine Z0k ?_
    refine Z07 ?_
    refine Z0P results79 rfl rfl ?_
    refine ⟨_, rfl, ?_⟩
    have H3 := St.del .head H1
    exact ⟨_, _, rfl, ZO, ZO, H3.grows⟩
   refine Z0a ?_
   refine Z0F ?_
   refine Z02 ?_
   refine Zk [] ?_
   refine Z03 (Z00 (Zg (Zg (Z01 (Z02 ?_)))))
   refine Z0i ?_
   refine Z0P results79 rfl rfl ?_
   refine ⟨_, rfl, ?_⟩
   have H4 := St.del .head H1
   exact ⟨_, _, rfl, ZO, ZO, H4.grows⟩
  refine Z00 ?_
  refine Z5W rfl rfl rfl rfl ?_
  refine Zg (Z01 (Z02 ?_))
  refine Zk [13] ?_
  (first | refine Z0c rfl ?_ ?_ | refine Z08 rfl ?_ ?_) <;> intro hc4
  ·refine Z03 (Z00 (Zg (Zg (Z01 (Z02 ?_)))))
   refine Zk [6, 7] ?_
   refine Z0i ?_
   refine Z0k ?_
   refine Z07 ?_
   refine Z0P results79 rfl rfl ?_
   refine ⟨_, rfl, ?_⟩
   have H5 := St.del .head H1
   exact ⟨_, _, rfl, ZO, ZO, H5.grows⟩
  refine Z0a ?_
  refine Z0F ?_
  refine Z02 ?_
  refine Zk [] ?_
  refine Z03 (Z00 (Zg (Zg (Z01 (Z02 ?_)))))
  refine Z0i ?_
  refine Z0P results79 rfl rfl ?_
  refine ⟨_, rfl, ?_⟩
  have H6 := St.del .head H1
  exact ⟨_, _, rfl, ZO, ZO, H6.grows⟩
 refine Z00 ?_
 refine Z5W rfl rfl rfl rfl ?_
 refine Zg (Z01 (Z02 ?_))
 refine Zk [9, 10] ?_
 (first | refine Z0c rfl ?_ ?_ | refine Z08 rfl ?_ ?_) <;> intro hc5
 ·refine Z03 (Z00 (Zg (Zg (Z01 (Z02 ?_)))))
  refine Zk [6, 7] ?_
  refine Z0i ?_
  refine Z0k ?_
  refine Z07 ?_
  refine Z0P results79 rfl rfl ?_
  refine ⟨_, rfl, ?_⟩
  have H7 := St.del .head H1
  exact ⟨_, _, rfl, ZO, ZO, H7.grows⟩
 refine Z03 (Z03 (Z00 ?_))
 refine Z5W rfl rfl rfl rfl ?_
 refine Zg (Z01 (Z02 ?_))
 refine Zk [9, 13] ?_
 (first | refine Z0c rfl ?_ ?_ | refine Z08 rfl ?_ ?_) <;> intro hc6
 ·refine Z0a (Z02 ?_)
  refine Zk [13] ?_
  (first | refine Z0c rfl ?_ ?_ | refine Z08 rfl ?_ ?_) <;> intro hc7
  ·refine Z03 (Z00 (Zg (Zg (Z01 (Z02 ?_)))))
   refine Zk [6, 7] ?_
   refine Z0i ?_
   refine Z0k ?_
   refine Z07 ?_
   refine Z0P results79 rfl rfl ?_
   refine ⟨_, rfl, ?_⟩
   have H8 := St.del .head H1
   exact ⟨_, _, rfl, ZO, ZO, H8.grows⟩
  refine Z0a ?_
  refine Z0F ?_
  refine Z02 ?_
  refine Zk [] ?_
  refine Z03 (Z00 (Zg (Zg (Z01 (Z02 ?_)))))
  refine Z0i ?_
  refine Z0P results79 rfl rfl ?_
  refine ⟨_, rfl, ?_⟩
  have H9 := St.del .head H1
  exact ⟨_, _, rfl, ZO, ZO, H9.grows⟩
 refine Z00 ?_
 refine Z5W rfl rfl rfl rfl ?_
 refine Zg (Z01 (Z02 ?_))
 refine Zk [13] ?_
 (first | refine Z0c rfl ?_ ?_ | refine Z08 rfl ?_ ?_) <;> intro hc8
 ·refine Z03 (Z00 (Zg (Zg (Z01 (Z02 ?_)))))
  refine Zk [6, 7] ?_
  refine Z0i ?_
  refine Z0k ?_
  refine Z07 ?_
  refine Z0P results79 rfl rfl ?_
  refine ⟨_, rfl, ?_⟩
  have H10 := St.del .head H1
  exact ⟨_, _, rfl, ZO, ZO, H10.grows⟩
 refine Z0a ?_
 refine Z0F ?_
 refine Z02 ?_
 refine Zk [] ?_
 refine Z03 (Z00 (Zg (Zg (Z01 (Z02 ?_)))))
 refine Z0i ?_
 refine Z0P results79 rfl rfl ?_
 refine ⟨_, rfl, ?_⟩
 have H11 := St.del .head H1
 exact ⟨_, _, rfl, ZO, ZO, H11.grows⟩
theorem Z5E (x : Int) : 0 ≤ IntKind.wrap .u64 x ∧ IntKind.wrap .u64 x ≤ 18446744073709551615 := by
 have h := IntKind.wrap_u64 x
 rw [h]
 have h1 := Int.emod_nonneg x (show (18446744073709551616 : Int) ≠ 0 by decide)
 have h2 := Int.emod_lt_of_pos x (show (0 : Int) < 18446744073709551616 by decide)
 omega
theorem l_andw {P : Program} {N : Nat} {ρ : Env} {w : World} {Q : Z26} {ops : Array Oper} {rest : List Oper} {d : Nat} {ty : TypeId} {pos : String} {af : Array Edge} {g : Option (Nat × Bool)} {x y : Operand} {m q : Int} {T U : TypeId} (hg : Z0t ops ρ g = true) (hN : Nat.blt d N = true) (hx : Z0g ρ x = some (.int .u64 m)) (hy : Z0g ρ y = some (.int .u64 q))
  (n : ∀ r : Int, 0 ≤ r ∧ r ≤ 18446744073709551615 → RunL P N ops Q rest ((d, .int .u64 r) :: ρ) w) : RunL P N ops Q (⟨some d, .binOp .and T x y U, ty, pos, af, g⟩ :: rest) ρ w := Z1i rfl hg hN hx hy rfl (n _ (Z5E _))
theorem widthW (k : Int) (hk : 1 ≤ k ∧ k ≤ 8) (w : World) :
  Z0f P 114 [.int .i64 k] w fun r w' => ∃ n : Nat, r = .tuple #[.int .i64 (n : Int), .bool (decide (k ≤ 4)), .bool true] ∧ (n = 8 ∨ n = 16 ∨ n = 32 ∨ n = 64) ∧ Grow w w' [] := by
 refine Z0o func114 rfl ntmps114 rfl ?_
 have H0 := St.start w
 refine Z03 (Z00 (Zg (Zg (Zg (Z01 (Z02 ?_))))))
 refine Zk [0] ?_
 refine Z03 (Z00 ?_)
 refine Z6r (pl := [(0, 1), (1, 1), (2, 1), (3, 1)]) rfl rfl underlying261 tz3 ta261 (by intro i q h; rcases i with _ | _ | _ | _ | i <;> simp at h <;> (try subst h) <;> rfl) (.one rfl rfl ZR .zero (.one rfl rfl ZR (.succ .zero) (.one rfl rfl ZR (.succ (.succ .zero)) (.one rfl rfl ZR (.succ (.succ (.succ .zero))) .nil)))) ?_
 refine Z0X H0 ta261 rfl rfl (fun b1_1 w1 H1 => ?_)
 refine Z0m H1 .head (.zero (.zero (.zero (.zero .nil)))) rfl tz261 rfl rfl ZC (fun w2 H2 => ?_)
 refine Z01 (Z02 ?_)
 refine Zk [0, 5] ?_
 refine Z03 (Z0d (Z03 (Z00 (Zm ?_))))
 refine Zh ?_
 refine Zm ?_
 apply Z47 2 [0, 5] rfl rfl (.cons rfl (.cons rfl (.cons rfl .nil))) rfl rfl (fun _ => rfl) rfl rfl rfl
 ·intro hg2_3
  refine Zm ?_
  refine Zf ?_
  refine Z01 ?_
  exact Z0O rfl (.cons rfl (ZT hg2_3) (.cons rfl rfl (.cons rfl rfl .nil)))
  all_goals infer_instance
 refine Zg (Z01 (Z02 ?_))
 refine Zk [0, 5, 7] ?_
 (first | refine Z0c rfl ?_ ?_ | refine Z08 rfl ?_ ?_) <;> intro hc0
 ·refine Z03 (Z00 ?_)
  obtain ⟨n, hn, hcell⟩ : ∃ n : Nat, (n = 8 ∨ n = 16 ∨ n = 32 ∨ n = 64) ∧ ([.int .i64 8, .int .i64 16, .int .i64 32, .int .i64 64] : List Value)[(k - 1).toNat]? = some (.int .i64 (n : Int)) := by
   rcases (show k - 1 = 0 ∨ k - 1 = 1 ∨ k - 1 = 2 ∨ k - 1 = 3 by omega) with h | h | h | h <;> rw [h]
   ·exact ⟨8, .inl rfl, rfl⟩
   ·exact ⟨16, .inr (.inl rfl), rfl⟩
   ·exact ⟨32, .inr (.inr (.inl rfl)), rfl⟩
   exact ⟨64, .inr (.inr (.inr rfl)), rfl⟩
  refine Zm ?_
  refine Z0W rfl rfl rfl rfl (Z0l ZO) ?_
  refine Z5r (j := (k - 1).toNat) (n := 1) rfl rfl underlying261 tz3 rfl rfl ZO ZO ?_
  rw [Nat.mul_one]
  refine Z05 H2 mem0 rfl rfl underlying3 rfl rfl hcell ?_
  refine Zg (Zg (Zg (Z01 (Z02 ?_))))
  refine Zk [2, 3, 4] ?_
  refine Z0i ?_
  refine Z0k ?_
  refine Z07 ?_
  refine Z12 results114 (.tmp rfl (.tmp rfl (.tmp rfl .nil))) rfl ?_
  refine ⟨_, rfl, ?_⟩
  have H3 := St.del .head H2
  exact ⟨n, by rw [decide_eq_true ZO], hn, H3.grows⟩
 refine Z03 (Z00 (Zm ?_))
 refine Zh ?_
 refine Zm ?_
 apply Z47 2 [0, 5] rfl rfl (.cons rfl (.cons rfl (.cons rfl .nil))) rfl rfl (fun _ => rfl) rfl rfl rfl
 ·intro hg4_3
  refine Zm ?_
  refine Zf ?_
  refine Z01 ?_
  exact Z0O rfl (.cons rfl (ZT hg4_3) (.cons rfl rfl (.cons rfl rfl .nil)))
  all_goals infer_instance
 refine Zg (Z01 (Z02 ?_))
 refine Zk [0, 5, 18] ?_
 (first | refine Z0c rfl ?_ ?_ | refine Z08 rfl ?_ ?_) <;> intro hc1
 ·refine Z03 (Z00 ?_)
  obtain ⟨n, hn, hcell⟩ : ∃ n : Nat, (n = 8 ∨ n = 16 ∨ n = 32 ∨ n = 64) ∧ ([.int .i64 8, .int .i64 16, .int .i64 32, .int .i64 64] : List Value)[(k - 5).toNat]? = some (.int .i64 (n : Int)) := by
   rcases (show k - 5 = 0 ∨ k - 5 = 1 ∨ k - 5 = 2 ∨ k - 5 = 3 by omega) with h | h | h | h <;> rw [h]
   ·exact ⟨8, .inl rfl, rfl⟩
   ·exact ⟨16, .inr (.inl rfl), rfl⟩
   ·exact ⟨32, .inr (.inr (.inl rfl)), rfl⟩
   exact ⟨64, .inr (.inr (.inr rfl)), rfl⟩
  refine Zm ?_
  refine Z0W rfl rfl rfl rfl (Z0l ZO) ?_
  refine Z5r (j := (k - 5).toNat) (n := 1) rfl rfl underlying261 tz3 rfl rfl ZO ZO ?_
  rw [Nat.mul_one]
  refine Z05 H2 mem0 rfl rfl underlying3 rfl rfl hcell ?_
  refine Zg (Zg (Zg (Z01 (Z02 ?_))))
  refine Zk [2, 3, 4] ?_
  refine Z0i ?_
  refine Z0k ?_
  refine Z07 ?_
  refine Z12 results114 (.tmp rfl (.tmp rfl (.tmp rfl .nil))) rfl ?_
  refine ⟨_, rfl, ?_⟩
  have H4 := St.del .head H2
  exact ⟨n, by rw [decide_eq_false ZO], hn, H4.grows⟩
 refine Z0a ?_
 refine Z0F ?_
 refine Z02 ?_
 refine Zk [] ?_
 refine Z03 (Z00 (Zg (Zg (Zg (Z01 (Z02 ?_))))))
 refine Z0i ?_
 refine Z12 results114 (.tmp rfl (.tmp rfl (.tmp rfl .nil))) rfl ?_
 refine ⟨_, rfl, ?_⟩
 have H5 := St.del .head H2
 exact absurd hk ZO
theorem mostW (n : Nat) (sg ng : Bool) (hn : n = 8 ∨ n = 16 ∨ n = 32 ∨ n = 64) (w : World) :
  Z0f P 115 [.int .i64 (n : Int), .bool sg, .bool ng] w fun r w' => ∃ m, r = .int .u64 m ∧ u64I m ∧ w = w' := by
 refine Z0o func115 rfl ntmps115 rfl ?_
 refine Z03 (Z00 (Zg (Z01 (Z02 ?_))))
 refine Zk [0, 1, 2] ?_
 refine Z03 (Z00 (Zm ?_))
 refine Z0W rfl rfl rfl rfl (Z0l ZO) ?_
 refine Z5I rfl rfl rfl rfl ZO (rfl) ?_
 refine Z5I rfl rfl rfl rfl ZO (rfl) ?_
 refine Z0W rfl rfl rfl rfl (rfl) ?_
 refine Zg (Z01 (Z02 ?_))
 refine Zk [1, 2, 7] ?_
 refine Z03 (Z0d (Z03 (Z00 (Zm ?_))))
 first | refine Z38 rfl rfl rfl ?_ | refine Z3v rfl rfl rfl ?_
 refine Zg (Z01 (Z02 ?_))
 refine Zk [2, 7, 13] ?_
 (first | refine Z0c rfl ?_ ?_ | refine Z08 rfl ?_ ?_) <;> intro hc0
 ·refine Z03 (Z00 (Zm (Zg (Z01 (Z02 ?_)))))
  refine Zk [6] ?_
  refine Z0i ?_
  refine Z0k ?_
  refine Z07 ?_
  refine Z0e results115 rfl ?_
  refine ⟨_, rfl, ?_⟩
  exact ⟨_, rfl, Z5E _, rfl⟩
 refine Z03 (Z00 (Zm (Zg (Z01 (Z02 ?_)))))
 refine Zk [7, 17] ?_
 (first | refine Z0c rfl ?_ ?_ | refine Z08 rfl ?_ ?_) <;> intro hc1
 ·refine Z03 (Z00 (Zm ?_))
  refine Z2D rfl rfl rfl rfl ZO (rfl) ?_
  refine Z0y rfl rfl rfl rfl (rfl) ?_
  refine Zg (Z01 (Z02 ?_))
  refine Zk [6] ?_
  refine Z0i ?_
  refine Z0k ?_
  refine Z07 ?_
  refine Z0e results115 rfl ?_
  refine ⟨_, rfl, ?_⟩
  exact ⟨_, rfl, Z5E _, rfl⟩
 refine Z0a ?_
 refine Z0F ?_
 refine Z02 ?_
 refine Zk [7] ?_
 refine Z03 (Z00 (Zm ?_))
 refine Z2D rfl rfl rfl rfl ZO (rfl) ?_
 refine Zg (Z01 (Z02 ?_))
 refine Zk [6] ?_
 refine Z0i ?_
 refine Z0e results115 rfl ?_
 refine ⟨_, rfl, ?_⟩
 exact ⟨_, rfl, Z5E _, rfl⟩
theorem isD_u8 {c : UInt8} (h : isD c) : 0 ≤ (c.toNat : Int) - 48 ∧ (c.toNat : Int) - 48 ≤ 9 := by
 unfold isD at h
 omega
theorem ParseW (k : Int) (hk : 1 ≤ k ∧ k ≤ 8) (v : Value) (t : L8) (hL : t.length ≤ 1099511627776) (w : World) (hv : IB w v t) :
  Z0f P 72 [.int .i64 k, v] w fun r w' => ∃ b p e, r = .tuple #[.int .u64 b, .int .i64 p, .int .i64 e] ∧ u64I b ∧ i64I e ∧ Grow w w' [] := by
 refine Z0o func72 rfl ntmps72 rfl ?_
 have H0 := St.start w
 refine Z03 (Z00 (Zg ?_))
 refine Zg ?_
 refine Zg (Z01 (Z02 ?_))
 refine Zk [0, 1] ?_
 refine Z03 (Z00 (Zm ?_))
 refine Zc func114 (widthW k hk w) ?_
 rintro _ w1 ⟨n, rfl, hn, hG⟩
 have H1 := hG _ _ _ _ H0
 simp only [Zca, Zna] at H1
 refine Zm ?_
 refine Zx (Zx (Zx (Zg ?_)))
 refine Zg ?_
 refine Zg (Z01 (Z02 ?_))
 refine Zk [1, 7, 8, 9] ?_
 refine Z03 (Z03 (Z00 (Zm ?_)))
 first | refine Z38 rfl rfl rfl ?_ | refine Z3v rfl rfl rfl ?_
 refine Z0j (s := 25) (v' := .bool false) rfl (by rfl) ?_
 refine Z01 (Z02 ?_)
 refine Zk [1, 7, 8, 25] ?_
 refine Z0Q rfl rfl ?_
 refine Z0a (Z02 ?_)
 refine Zk [1, 7, 8] ?_
 refine Z03 (Z00 (Zg (Z01 (Z02 ?_))))
 refine Z1q (ι := Nat) (fun (fr : Nat) (w' : World) => St w w.heap.size Z0J ([]) w' ∧ fr ≤ t.length ∧ fr ≤ 1) (fun (fr : Nat) => [(10, .int .i64 (fr : Int))]) [1, 7, 8] (.cons rfl (.cons rfl (.cons rfl .nil))) ?_ ?_
 ·refine Z03 (Z00 (Zm ?_))
  refine Z4W rfl rfl underlying25 rfl (by first | exact H1.iarg hv | exact H1.iarg h15_2 | assumption) ?_
  refine Zw ?_
  refine Zm ?_
  apply Z47 (q := ((t.getD 0 0).toNat : Int) = 43 ∨ (((t.getD 0 0).toNat : Int) = 45 ∧ k ≤ 4)) 13 [1, 7, 8, 10] rfl rfl (.cons rfl (.cons rfl (.cons rfl (.cons rfl (.cons rfl .nil))))) rfl rfl (fun _ => rfl) rfl rfl rfl
  ·intro hg5_4
   refine Zm ?_
   refine Z4Z (j := 0) rfl rfl rfl rfl underlying25 tz5 underlying5 rfl rfl (by first | exact H1.iarg hv | exact H1.iarg h15_2 | assumption) rfl ZO ZI (fun hb5_5 => ?_)
   refine Ze ?_
   refine Zm ?_
   apply l_or (q := ((t.getD 0 0).toNat : Int) = 45 ∧ k ≤ 4) 7 [1, 7, 8, 10, 29] rfl rfl (.cons rfl (.cons rfl (.cons rfl (.cons rfl (.cons rfl (.cons rfl .nil)))))) rfl rfl (fun _ => rfl) rfl rfl rfl
   ·intro hg5_9
    refine Zm ?_
    refine Z4Z (j := 0) rfl rfl rfl rfl underlying25 tz5 underlying5 rfl rfl (by first | exact H1.iarg hv | exact H1.iarg h15_2 | assumption) rfl ZO ZI (fun hb5_10 => ?_)
    refine Ze ?_
    refine Zm ?_
    apply Z47 (q := k ≤ 4) 1 [1, 7, 8, 10, 29, 34] rfl rfl (.cons rfl (.cons rfl (.cons rfl (.cons rfl (.cons rfl (.cons rfl (.cons rfl .nil))))))) rfl rfl (fun _ => rfl) rfl rfl rfl
    ·intro hg5_14
     refine Zm (Z01 ?_)
     exact Z0O rfl (.cons rfl (ZT hg5_14) (.cons rfl rfl (.cons rfl rfl (.cons rfl rfl (.cons rfl rfl (.cons rfl rfl (.cons rfl rfl .nil)))))))
     all_goals infer_instance
    refine Z01 ?_
    exact Z0O rfl (.cons rfl (ZF hg5_9) (.cons rfl rfl (.cons rfl rfl (.cons rfl rfl (.cons rfl rfl (.cons rfl rfl .nil))))))
    all_goals infer_instance
   refine Z01 ?_
   exact Z0O rfl (.cons rfl (ZT hg5_4) (.cons rfl rfl (.cons rfl rfl (.cons rfl rfl (.cons rfl rfl .nil)))))
   all_goals infer_instance
  refine Z01 (Z02 ?_)
  refine Zk [1, 7, 8, 10, 43] ?_
  (first | refine Z0c rfl ?_ ?_ | refine Z08 rfl ?_ ?_) <;> intro hc1
  ·refine Z00 (Zg (Z01 ?_))
   refine Z0w (1) ?_ (.cons rfl (.cons rfl (.cons rfl .nil))) ?_
   ·exact ⟨H1, ZO, ZO⟩
   exact (.cons rfl ZN .nil)
  refine Z0a ?_
  refine Z0w (0) ?_ (.cons rfl (.cons rfl (.cons rfl .nil))) ?_
  ·exact ⟨H1, ZO, ZO⟩
  exact (.cons rfl ZN .nil)
 rintro fr w2 ⟨H2, hfr⟩
 show RunC P _ _ _ (_ :: _) _
 refine Z03 (Z00 ?_)
 have hrl0 := Z4X t fr hfr.1
 refine Zm ?_
 refine Zm ?_
 refine Zm ?_
 refine Zp func147 (Z5u v t ZO fr hfr.1 w2 (H2.iarg hv)) ?_
 refine Z0y rfl rfl rfl rfl (Z0l ZO) ?_
 refine Zg (Z01 (Z02 ?_))
 refine Zk [1, 7, 8, 10, 11] ?_
 refine Z03 (Z0d (Z03 (Z00 (Zm ?_))))
 refine Zm ?_
 refine Z4W rfl rfl underlying25 rfl (by first | exact H2.iarg hv | exact H2.iarg h15_2 | assumption) ?_
 refine Zl ?_
 refine Zg (Z01 (Z02 ?_))
 refine Zk [1, 7, 8, 10, 11, 49] ?_
 (first | refine Z0c rfl ?_ ?_ | refine Z08 rfl ?_ ?_) <;> intro hc2
 ·refine Z03 (Z00 (Zm ?_))
  refine Zg ?_
  refine Zg ?_
  refine Zg (Z01 (Z02 ?_))
  refine Zk [4, 5, 6] ?_
  refine Z0i ?_
  refine Z0k ?_
  refine Z07 ?_
  refine Z12 results72 (.tmp rfl (.tmp rfl (.tmp rfl .nil))) rfl ?_
  refine ⟨_, rfl, ?_⟩
  exact ⟨_, _, _, rfl, ZO, ZO, H2.grows⟩
 refine Z03 (Z00 (Zm ?_))
 refine Zm ?_
 refine Ze ?_
 refine Zg (Z01 (Z02 ?_))
 refine Zk [1, 7, 8, 10, 11, 55] ?_
 (first | refine Z0c rfl ?_ ?_ | refine Z08 rfl ?_ ?_) <;> intro hc3
 ·refine Z03 (Z00 (Zm ?_))
  refine Zg ?_
  refine Zg ?_
  refine Zg (Z01 (Z02 ?_))
  refine Zk [4, 5, 6] ?_
  refine Z0i ?_
  refine Z0k ?_
  refine Z07 ?_
  refine Z12 results72 (.tmp rfl (.tmp rfl (.tmp rfl .nil))) rfl ?_
  refine ⟨_, rfl, ?_⟩
  exact ⟨_, _, _, rfl, ZO, ZO, H2.grows⟩
 refine Z0a ?_
 refine Z0F ?_
 refine Z02 ?_
 refine Zk [1, 7, 8, 10] ?_
 refine Z03 (Z00 ?_)
 have hrl := Z4X t fr hfr.1
 have ht0 : 0 < t.length := by omega
 have hra : run (t.drop fr) = (t.drop fr).length := by rw [List.length_drop]; omega
 have hdg : ∀ j, j < (t.drop fr).length → isD ((t.drop fr).getD j 0) := fun j hj => Z5n _ j ZO
 refine Zm ?_
 refine Z4Z (j := 0) rfl rfl rfl rfl underlying25 tz5 underlying5 rfl rfl (by first | exact H2.iarg hv | exact H2.iarg h15_2 | assumption) rfl ZO ZI (fun hb12_1 => ?_)
 refine Ze ?_
 refine Zg (Z01 (Z02 ?_))
 refine Zk [1, 7, 8, 10, 12] ?_
 refine Z03 (Z00 (Zg (Z01 (Z02 (Z03 (Z00 ?_))))))
 refine Zm ?_
 refine Zm ?_
 refine Zm ?_
 refine Zc func115 (mostW n (decide (k ≤ 4)) (decide (((t.getD 0 0).toNat : Int) = 45)) hn w2) ?_
 rintro _ _ ⟨m, rfl, hm, rfl⟩
 refine Zg (Z01 (Z02 ?_))
 refine Zk [1, 7, 10, 12, 13, 14] ?_
 refine Z03 (Z03 (Z00 (Zm ?_)))
 refine Zm ?_
 refine Z5B (l := fr) (h := t.length) rfl rfl underlying25 tz5 rfl rfl rfl rfl hv ZD ZD (.inl rfl) (by simp) ZO ZI (fun v15_2 h15_2 ho15_2 => ?_)
 rw [Z59, List.take_length] at h15_2
 refine Z4W rfl rfl underlying25 rfl (by first | exact H2.iarg hv | exact H2.iarg h15_2 | assumption) ?_
 refine Zm (Z01 (Z02 ?_))
 refine Zk [7, 10, 12, 13, 14, 70, 71, 72] ?_
 refine Z0d ?_
 refine Z0z (ι := Nat × Int) (fun (z0 : Nat × Int) => match z0 with | ⟨i, sz⟩ => (t.drop fr).length - i) (fun (z0 : Nat × Int) (w' : World) => match z0 with | ⟨i, sz⟩ => St w w.heap.size Z0J ([]) w' ∧ i ≤ (t.drop fr).length ∧ u64I sz) (fun (z0 : Nat × Int) => match z0 with | ⟨i, sz⟩ => [(13, .int .u64 sz), (72, .int .i64 (i : Int))]) [7, 10, 12, 14, 70, 71] (0, 0) ?_ (.cons rfl (.cons rfl (.cons rfl (.cons rfl (.cons rfl (.cons rfl .nil)))))) ?_ ?_
 ·exact ⟨H2, ZO, ZO⟩
 ·exact (.cons rfl ZN (.cons rfl ZN .nil))
 rintro ⟨i, sz⟩ w3 ⟨H3, hi, hsz⟩
 show RunC P _ _ _ (_ :: _) _
 refine Z03 (Z00 ?_)
 refine Zl ?_
 refine Z01 (Z02 (Z03 ?_))
 (first | refine Z0c rfl ?_ ?_ | refine Z08 rfl ?_ ?_) <;> intro hc4
 ·refine Z0a (Z02 ?_)
  refine Zk [7, 10, 12, 13, 14, 70, 71, 72] ?_
  refine Z03 (Z0d (Z03 (Z00 (Zm ?_))))
  refine Z4Z (j := i) rfl rfl rfl rfl underlying25 tz5 underlying5 rfl rfl (by first | exact H3.iarg hv | exact H3.iarg h15_2 | assumption) rfl ZO ZI (fun hb17_1 => ?_)
  refine Zg ?_
  refine Zg (Z01 (Z02 ?_))
  refine Zk [7, 10, 12, 13, 14, 15, 16, 70, 71, 72] ?_
  refine Z03 (Z00 ?_)
  have hci := isD_u8 (hdg i ZO)
  refine Zm ?_
  refine Z0W rfl rfl rfl rfl (w_u8 ZO) ?_
  refine Z5a rfl rfl underlying5 underlying24 rfl (Z1p ZO) ?_
  refine Zg (Z01 (Z02 ?_))
  refine Zk [7, 10, 12, 13, 14, 15, 17, 70, 71, 72] ?_
  refine Z03 (Z03 (Z00 (Zm ?_)))
  refine Zm ?_
  refine Zw ?_
  refine Zm ?_
  apply l_or (q := (m - ((((t.drop fr).getD i 0).toNat : Int) - 48)) / 10 < sz) 6 [7, 10, 12, 13, 14, 15, 17, 70, 71, 72] rfl rfl (.cons rfl (.cons rfl (.cons rfl (.cons rfl (.cons rfl (.cons rfl (.cons rfl (.cons rfl (.cons rfl (.cons rfl (.cons rfl .nil))))))))))) rfl rfl (fun _ => rfl) rfl rfl rfl
  ·intro hg19_4
   refine Zm ?_
   refine Zm ?_
   refine Zm ?_
   refine Z0W rfl rfl rfl rfl (Z1p ZO) ?_
   refine Z2D rfl rfl rfl rfl ZO (Z78 ZO) ?_
   refine Zw ?_
   refine Z01 ?_
   exact Z0O rfl (.cons rfl (ZF hg19_4) (.cons rfl rfl (.cons rfl rfl (.cons rfl rfl (.cons rfl rfl (.cons rfl rfl (.cons rfl rfl (.cons rfl rfl (.cons rfl rfl (.cons rfl rfl (.cons rfl rfl .nil)))))))))))
   all_goals infer_instance
  refine Z01 (Z02 ?_)
  refine Zk [7, 10, 12, 13, 14, 15, 17, 70, 71, 72, 90] ?_
  (first | refine Z0c rfl ?_ ?_ | refine Z08 rfl ?_ ?_) <;> intro hc5
  ·refine Z03 (Z00 (Zm ?_))
   refine Zm ?_
   refine Z0y rfl rfl rfl rfl (Z0l ZO) ?_
   refine Zg ?_
   refine Zg ?_
   refine Zg (Z01 (Z02 ?_))
   refine Zk [4, 5, 6] ?_
   refine Z0i ?_
   refine Z07 ?_
   refine Z0k ?_
   refine Z07 ?_
   refine Z07 ?_
   refine Z0k ?_
   refine Z07 ?_
   refine Z12 results72 (.tmp rfl (.tmp rfl (.tmp rfl .nil))) rfl ?_
   refine ⟨_, rfl, ?_⟩
   exact ⟨_, _, _, rfl, ZO, ZO, H3.grows⟩
  refine Z0a (Z02 ?_)
  refine Zk [7, 10, 12, 13, 14, 17, 70, 71, 72] ?_
  refine Z00 (Zm ?_)
  refine Z20 rfl rfl rfl rfl (Z1p ZO) ?_
  refine Zm ?_
  refine Z0y rfl rfl rfl rfl (Z1p ZO) ?_
  refine Zg (Z01 ?_)
  refine Z0F ?_
  refine Z02 ?_
  refine Zk [7, 10, 12, 13, 14, 70, 71, 72] ?_
  refine Z00 ?_
  refine Z0y rfl rfl rfl rfl (Z0l ZO) ?_
  refine Zm (Z01 ?_)
  refine Z0p (i := (i, sz)) (i + 1, 10 * sz + ((((t.drop fr).getD i 0).toNat : Int) - 48)) ?_ ?_ (.cons rfl (.cons rfl (.cons rfl (.cons rfl (.cons rfl (.cons rfl .nil)))))) ?_
  ·first | omega | (simp; omega)
  ·exact ⟨H3, ZO, ZO⟩
  exact (.cons rfl ZN (.cons rfl ZN .nil))
 refine Z0H ?_
 refine Z06 ?_
 refine Z06 ?_
 refine Z0h ?_
 refine Z02 ?_
 refine Zk [7, 12, 13] ?_
 refine Z1q (ι := Int) (fun (z : Int) (w' : World) => St w w.heap.size Z0J ([]) w' ∧ u64I z) (fun (z : Int) => [(13, .int .u64 z)]) [] .nil ?_ ?_
 ·refine Z03 (Z00 (Zm (Z01 (Z02 ?_))))
  refine Zk [7, 13, 99] ?_
  (first | refine Z0c rfl ?_ ?_ | refine Z08 rfl ?_ ?_) <;> intro hc6
  ·refine Z00 (Zm ?_)
   refine Z5M rfl rfl rfl rfl ?_
   refine Zm ?_
   refine Z0W rfl rfl rfl rfl (Z0l ZO) ?_
   refine Z5I rfl rfl rfl rfl ZO (rfl) ?_
   refine Z5I rfl rfl rfl rfl ZO (rfl) ?_
   refine Z0W rfl rfl rfl rfl (rfl) ?_
   refine l_andw rfl rfl rfl rfl (fun z7 hz7 => ?_)
   refine Zg (Z01 ?_)
   refine Z0w (z7) ?_ .nil ?_
   ·exact ⟨H3, hz7⟩
   exact (.cons rfl ZN .nil)
  refine Z0a ?_
  refine Z0w (sz) ?_ .nil ?_
  ·exact ⟨H3, hsz⟩
  exact (.cons rfl ZN .nil)
 rintro z w4 ⟨H4, hz⟩
 show RunC P _ _ _ (_ :: _) _
 refine Z03 (Z00 (Zm ?_))
 refine Zg ?_
 refine Zg ?_
 refine Zg (Z01 (Z02 ?_))
 refine Zk [4, 5, 6] ?_
 refine Z0i ?_
 refine Z12 results72 (.tmp rfl (.tmp rfl (.tmp rfl .nil))) rfl ?_
 refine ⟨_, rfl, ?_⟩
 exact ⟨_, _, _, rfl, ZO, ZO, H4.grows⟩
section
variable {P : Program} {N : Nat} {ρ : Env} {w : World}
theorem l_elemv {Q : Z26} {ops : Array Oper} {rest : List Oper} {d : Nat} {ty : TypeId} {pos : String} {af : Array Edge} {g : Option (Nat × Bool)} {x ix : Operand} {cs : List Value} {v : Value} {u : TypeDesc} {k : IntKind} {i : Int} {j m : Nat} {T e : TypeId}
  (hg : Z0t ops ρ g = true) (hN : Nat.blt d N = true) (hT : P.underlying T = some (.array m e)) (he : P.underlying e = some u) (hp : Z1V u = true) (hsz : (P.info? e).map (·.size) = some 1) (hx : Z0g ρ x = some (.agg cs.toArray)) (hi : Z0g ρ ix = some (.int k i)) (hij : i = (j : Int)) (hb : j < m) (hv : cs[j]? = some v)
  (n : RunL P N ops Q rest ((d, v) :: ρ) w) : RunL P N ops Q (⟨some d, .index T x ix, ty, pos, af, g⟩ :: rest) ρ w := by
 subst hij
 refine Z1n hg rfl hN (fun a ha => ?_) n
 have hag : (isAgg e).run P w = .ok false w := by
  simp only [isAgg, Sem.run_bind, run_underlying he, Result.andThen_ok]
  cases u <;> simp_all [Z1V]
 have hc : cs.toArray[j]? = some v := by rw [List.getElem?_toArray]; exact hv
 cases hq : P.info? e with
 | none => simp [hq] at hsz
 | some inf =>
  have h1 : inf.size = 1 := by simpa [hq] using hsz
  simp only [execOp, ha.eval hx, ha.eval hi, Instr.index, asIntOf, Sem.run_bind, Sem.run_pure, Result.andThen_ok, run_underlying hT]
  rw [if_pos ZO]
  simp only [sizeOf, typeInfo, Sem.run_bind, Sem.run_pure, Result.andThen_ok, run_program, hq, h1, Nat.mul_one, Int.toNat_natCast, part, hag]
  simp [hc]
end
def leapF (y : Int) : Bool := decide (((0 ≤ y ∧ y ≤ 9999) ∧ y % 4 = 0) ∧ (¬ y % 100 = 0 ∨ y % 400 = 0))
def febF (y : Int) : Int := if leapF y = true then 29 else 28
def lenF (y m : Int) : Int := ([31, febF y, 31, 30, 31, 30, 31, 31, 30, 31, 30, 31] : List Int).getD (m - 1).toNat 0
theorem febF_or (y : Int) : febF y = 28 ∨ febF y = 29 := by unfold febF; split <;> simp
theorem lenF_bd (y m : Int) : 0 ≤ lenF y m ∧ lenF y m ≤ 31 := by
 have h := febF_or y
 unfold lenF
 generalize (m - 1).toNat = k
 rcases k with _ | _ | _ | _ | _ | _ | _ | _ | _ | _ | _ | _ | k <;> simp [List.getD] <;> omega
theorem pv_lt {l : L8} {n : Nat} (hd : ∀ j, j < l.length → isD (l.getD j 0)) (hn : l.length = n) : 0 ≤ pv l ∧ pv l < 10 ^ n := by
 have := Z50 n l hn (Z5w hd)
 omega
theorem formD (v : Value) (t : L8) (hL : t.length ≤ 1099511627776) (p : L8) (hp : p.length ≤ 100) (w : World) (hv : IB w v t) :
  Z0f P 162 [v, str p] w fun r w' => ∃ n : Nat, r = .int .i64 (n : Int) ∧ (n ≤ t.length ∧ n ≤ p.length ∧ ∀ j, j < n → p.getD j 0 = 100 → isD (t.getD j 0)) ∧ Grow w w' [] := by
 refine Z0o func162 rfl ntmps162 rfl ?_
 have H0 := St.start w
 refine Z03 (Z00 (Zg (Z01 (Z02 ?_))))
 refine Zk [0, 1] ?_
 refine Z03 (Z03 (Z00 (Zm ?_)))
 refine Z4W rfl rfl underlying25 rfl (by first | exact H0.iarg hv | assumption) ?_
 refine Zm ?_
 refine Z5f rfl rfl underlying9 rfl ?_
 refine l_min rfl rfl rfl rfl ?_
 refine Zm (Z01 (Z02 ?_))
 refine Zk [0, 1, 11, 12] ?_
 refine Z0d ?_
 refine Z0z (ι := Nat) (fun (n : Nat) => t.length - n) (fun (n : Nat) (w' : World) => St w w.heap.size Z0J ([]) w' ∧ n ≤ t.length ∧ n ≤ p.length ∧ ∀ j, j < n → p.getD j 0 = 100 → isD (t.getD j 0)) (fun (n : Nat) => [(12, .int .i64 (n : Int))]) [0, 1, 11] (0) ?_ (.cons rfl (.cons rfl (.cons rfl .nil))) ?_ ?_
 ·exact ⟨H0, ZO, ZO, fun j h => by omega⟩
 ·exact (.cons rfl ZN .nil)
 rintro n w1 ⟨H1, hn, hnp, hnd⟩
 show RunC P _ _ _ (_ :: _) _
 refine Z03 (Z00 ?_)
 refine Zl ?_
 refine Z01 (Z02 (Z03 ?_))
 (first | refine Z0c rfl ?_ ?_ | refine Z08 rfl ?_ ?_) <;> intro hc0
 ·refine Z0a (Z02 ?_)
  refine Zk [0, 1, 11, 12] ?_
  refine Z03 (Z0d (Z03 (Z00 (Zm (Zg (Z01 (Z02 ?_)))))))
  refine Zk [0, 1, 5, 11, 12] ?_
  refine Z03 ?_
  refine Z2F ZK ZK ?_
  have H2 := H1.drewn
  refine Zm (Zm ?_)
  refine Z4Z (j := n) rfl rfl rfl rfl underlying25 tz5 underlying5 rfl rfl (by first | exact H2.iarg hv | assumption) rfl ZO ZI (fun hb4_2 => ?_)
  refine Zm (Zm ?_)
  refine Z6m (j := n) rfl rfl underlying9 rfl rfl ZO ZI (fun hb4_6 => ?_)
  refine Ze ?_
  refine Zg (Z01 (Z02 ?_))
  refine Zk [0, 1, 5, 6, 11, 12] ?_
  refine Z03 (Z03 (Z00 (Zm (Zm ?_))))
  refine Z6m (j := n) rfl rfl underlying9 rfl rfl ZO ZI (fun hb5_2 => ?_)
  refine Ze ?_
  refine Z01 (Z02 ?_)
  refine Zk [0, 1, 5, 6, 11, 12, 26] ?_
  (first | refine Z0c rfl ?_ ?_ | refine Z08 rfl ?_ ?_) <;> intro hc1
  ·refine Z00 (Zm (Zm ?_))
   refine Z4Z (j := n) rfl rfl rfl rfl underlying25 tz5 underlying5 rfl rfl (by first | exact H2.iarg hv | assumption) rfl ZO ZI (fun hb6_2 => ?_)
   refine Z13 rfl rfl func195 rfl rfl (.cons rfl .nil) (Z67 _ _) ?_
   refine Zg (Z01 (Z02 ?_))
   refine Zk [0, 1, 5, 6, 11, 12] ?_
   refine Z03 (Z00 (Zm ?_))
   first | refine Z38 rfl rfl rfl ?_ | refine Z3v rfl rfl rfl ?_
   refine Z01 (Z02 ?_)
   refine Zk [0, 1, 5, 11, 12, 33] ?_
   (first | refine Z0c rfl ?_ ?_ | refine Z08 rfl ?_ ?_) <;> intro hc2
   ·refine Z03 (Z00 (Zm (Zg (Z01 (Z02 ?_)))))
    refine Zk [4] ?_
    refine Z0i ?_
    refine Z0k ?_
    refine Z07 ?_
    refine Z07 ?_
    refine Z0k ?_
    refine Z07 ?_
    refine Z0e results162 rfl ?_
    refine ⟨_, rfl, ?_⟩
    exact ⟨n, rfl, ⟨ZO, ZO, hnd⟩, H2.grows⟩
   refine Z0a ?_
   refine Z0F ?_
   refine Z02 ?_
   refine Zk [0, 1, 11, 12] ?_
   refine Z00 ?_
   refine Z0y rfl rfl rfl rfl (Z0l ZO) ?_
   refine Zm (Z01 ?_)
   refine Z0p (i := (n)) (n + 1) ?_ ?_ (.cons rfl (.cons rfl (.cons rfl .nil))) ?_
   ·first | omega | (simp; omega)
   ·exact ⟨H2, ZO, ZO, fun j h hj => by
     by_cases e : j = n
     ·subst e; exact Classical.byContradiction hc2
     exact hnd j ZO hj⟩
   exact (.cons rfl ZN .nil)
  refine Z0a (Z02 ?_)
  refine Zk [0, 1, 5, 6, 11, 12] ?_
  refine Z03 (Z00 (Zm ?_))
  first | refine Z38 rfl rfl rfl ?_ | refine Z3v rfl rfl rfl ?_
  refine Z01 (Z02 ?_)
  refine Zk [0, 1, 5, 11, 12, 33] ?_
  (first | refine Z0c rfl ?_ ?_ | refine Z08 rfl ?_ ?_) <;> intro hc3
  ·refine Z03 (Z00 (Zm (Zg (Z01 (Z02 ?_)))))
   refine Zk [4] ?_
   refine Z0i ?_
   refine Z0k ?_
   refine Z07 ?_
   refine Z07 ?_
   refine Z0k ?_
   refine Z07 ?_
   refine Z0e results162 rfl ?_
   refine ⟨_, rfl, ?_⟩
   exact ⟨n, rfl, ⟨ZO, ZO, hnd⟩, H2.grows⟩
  refine Z0a ?_
  refine Z0F ?_
  refine Z02 ?_
  refine Zk [0, 1, 11, 12] ?_
  refine Z00 ?_
  refine Z0y rfl rfl rfl rfl (Z0l ZO) ?_
  refine Zm (Z01 ?_)
  refine Z0p (i := (n)) (n + 1) ?_ ?_ (.cons rfl (.cons rfl (.cons rfl .nil))) ?_
  ·first | omega | (simp; omega)
  ·exact ⟨H2, ZO, ZO, fun j h hj => by
    by_cases e : j = n
    ·subst e; exact absurd (by rw [hj]; rfl) hc1
    exact hnd j ZO hj⟩
  exact (.cons rfl ZN .nil)
 refine Z0H ?_
 refine Z06 ?_
 refine Z06 ?_
 refine Z0h ?_
 refine Z02 ?_
 refine Zk [0, 1] ?_
 refine Z03 (Z00 (Zm ?_))
 refine Z4W rfl rfl underlying25 rfl (by first | exact H1.iarg hv | assumption) ?_
 refine Zm ?_
 refine Z5f rfl rfl underlying9 rfl ?_
 refine l_min rfl rfl rfl rfl ?_
 refine Zg (Z01 (Z02 ?_))
 refine Zk [4] ?_
 refine Z0i ?_
 refine Z0e results162 rfl ?_
 refine ⟨_, rfl, ?_⟩
 refine ⟨min t.length p.length, congrArg (Value.int .i64) ZO, ⟨ZO, ZO, fun j h hj => hnd j ZO hj⟩, H1.grows⟩
theorem Z6U (v : Value) (t : L8) (hL : t.length ≤ 1099511627776) (a b : Nat) (hab : a < b) (hb : b ≤ t.length) (h19 : b - a ≤ 18) (hd : ∀ j, a ≤ j → j < b → isD (t.getD j 0)) (w : World) (hv : IB w v t) :
  Z0f P 164 [v, .int .i64 (a : Int), .int .i64 (b : Int)] w fun r w' => ∃ x : Int, r = .int .i64 x ∧ (0 ≤ x ∧ x < 10 ^ (b - a)) ∧ w = w' := by
 refine Z0o func164 rfl ntmps164 rfl ?_
 refine Z03 (Z00 (Zg (Z01 (Z02 ?_))))
 refine Zk [0, 1, 2] ?_
 refine Z03 (Z00 (Zm (Zm (Zm ?_))))
 refine Z5B (l := a) (h := b) rfl rfl underlying25 tz5 rfl rfl rfl rfl hv ZD ZD (.inl rfl) (by simp) ZO ZI (fun v1_3 h1_3 ho1_3 => ?_)
 rw [Z59] at h1_3
 have hln : ((t.take b).drop a).length = b - a := Z64 t hb
 have hdg : ∀ j, j < ((t.take b).drop a).length → isD (((t.take b).drop a).getD j 0) := fun j hj => by
  have h := hd (a + j) ZO ZO
  simpa [List.getD, List.getElem?_drop, List.getElem?_take, show a + j < b by omega] using h
 have hpl := pv_lt hdg hln
 have h18 : (10 : Int) ^ (b - a) ≤ 10 ^ 18 := Ma.pow_mono ZO h19
 have e18 : (10 : Int) ^ 18 = 1000000000000000000 := by decide
 refine Z13 rfl rfl func212 rfl rfl (.cons rfl .nil) (valueD v1_3 ((t.take b).drop a) hdg ZO ZO _ h1_3) ?_
 refine Zm ?_
 refine Zx (Zx (Zg (Zg (Z01 (Z02 ?_)))))
 refine Zk [7] ?_
 refine Z03 (Z00 (Zm ?_))
 refine Z5a rfl rfl underlying24 underlying3 rfl (Z0l ZO) ?_
 refine Zg (Z01 (Z02 ?_))
 refine Zk [6] ?_
 refine Z0i ?_
 refine Z0e results164 rfl ?_
 refine ⟨_, rfl, ?_⟩
 exact ⟨_, rfl, hpl, rfl⟩
theorem leapD (y : Int) (hy : 0 ≤ y ∧ y ≤ 9999) (w : World) :
  Z0f P 220 [.int .i64 y] w fun r w' => r = .bool (leapF y) ∧ w = w' := by
 refine Z0o func220 rfl ntmps220 rfl ?_
 refine Z03 (Z00 (Zg (Z01 (Z02 ?_))))
 refine Zk [0] ?_
 refine Z03 (Z00 (Zm ?_))
 refine Zh ?_
 refine Zm ?_
 apply Z47 2 [0] rfl rfl (.cons rfl (.cons rfl .nil)) rfl rfl (fun _ => rfl) rfl rfl rfl
 ·intro hg1_3
  refine Zm ?_
  refine Zf ?_
  refine Z01 ?_
  exact Z0O rfl (.cons rfl (ZT hg1_3) (.cons rfl rfl .nil))
  all_goals infer_instance
 refine Zm ?_
 apply Z47 (q := y % 4 = 0) 3 [0] rfl rfl (.cons rfl (.cons rfl .nil)) rfl rfl (fun _ => rfl) rfl rfl rfl
 ·intro hg1_7
  refine Zm ?_
  refine Z2e rfl rfl rfl rfl ZO (Z2E ZO) ?_
  refine Ze ?_
  refine Z01 ?_
  exact Z0O rfl (.cons rfl (ZT hg1_7) (.cons rfl rfl .nil))
  all_goals infer_instance
 refine Zm ?_
 apply Z47 (q := ¬ y % 100 = 0 ∨ y % 400 = 0) 8 [] rfl rfl (.cons rfl .nil) rfl rfl (fun _ => rfl) rfl rfl rfl
 ·intro hg1_12
  refine Zm ?_
  refine Z2e rfl rfl rfl rfl ZO (Z2E ZO) ?_
  refine Zo ?_
  refine Zm ?_
  apply l_or (q := y % 400 = 0) 3 [14] rfl rfl (.cons rfl (.cons rfl .nil)) rfl rfl (fun _ => rfl) rfl rfl rfl
  ·intro hg1_16
   refine Zm ?_
   refine Z2e rfl rfl rfl rfl ZO (Z2E ZO) ?_
   refine Ze ?_
   refine Z01 ?_
   exact Z0O rfl (.cons rfl (ZF hg1_16) (.cons rfl rfl .nil))
   all_goals infer_instance
  refine Z01 ?_
  exact Z0O rfl (.cons rfl (ZT hg1_12) .nil)
  all_goals infer_instance
 refine Zg (Z01 (Z02 ?_))
 refine Zk [2] ?_
 refine Z0i ?_
 refine Z0e results220 rfl ?_
 refine ⟨_, rfl, ?_⟩
 exact ⟨rfl, rfl⟩
theorem monthsD (y : Int) (hy : 0 ≤ y ∧ y ≤ 9999) (w : World) :
  Z0f P 178 [.int .i64 y] w fun r w' => r = .agg ([.int .i64 31, .int .i64 (febF y), .int .i64 31, .int .i64 30, .int .i64 31, .int .i64 30, .int .i64 31, .int .i64 31, .int .i64 30, .int .i64 31, .int .i64 30, .int .i64 31] : List Value).toArray ∧ Grow w w' [] := by
 refine Z0o func178 rfl ntmps178 rfl ?_
 have H0 := St.start w
 refine Z03 (Z00 ?_)
 refine Z0X H0 ta258 rfl rfl (fun b0_0 w1 H1 => ?_)
 refine Z01 (Z02 (Z03 (Z00 ?_)))
 refine Z6r (pl := [(0, 1), (1, 1), (2, 1), (3, 1), (4, 1), (5, 1), (6, 1), (7, 1), (8, 1), (9, 1), (10, 1), (11, 1)]) rfl rfl underlying258 tz3 ta258 (by intro i q h; rcases i with _ | _ | _ | _ | _ | _ | _ | _ | _ | _ | _ | _ | i <;> simp at h <;> (try subst h) <;> rfl) (.one rfl rfl ZR .zero (.one rfl rfl ZR (.succ .zero) (.one rfl rfl ZR (.succ (.succ .zero)) (.one rfl rfl ZR (.succ (.succ (.succ .zero))) (.one rfl rfl ZR (.succ (.succ (.succ (.succ .zero)))) (.one rfl rfl ZR (.succ (.succ (.succ (.succ (.succ .zero))))) (.one rfl rfl ZR (.succ (.succ (.succ (.succ (.succ (.succ .zero)))))) (.one rfl rfl ZR (.succ (.succ (.succ (.succ (.succ (.succ (.succ .zero))))))) (.one rfl rfl ZR (.succ (.succ (.succ (.succ (.succ (.succ (.succ (.succ .zero)))))))) (.one rfl rfl ZR (.succ (.succ (.succ (.succ (.succ (.succ (.succ (.succ (.succ .zero))))))))) (.one rfl rfl ZR (.succ (.succ (.succ (.succ (.succ (.succ (.succ (.succ (.succ (.succ .zero)))))))))) (.one rfl rfl ZR (.succ (.succ (.succ (.succ (.succ (.succ (.succ (.succ (.succ (.succ (.succ .zero))))))))))) .nil)))))))))))) ?_
 refine Z0X H1 ta258 rfl rfl (fun b1_1 w2 H2 => ?_)
 refine Z0m H2 .head (.zero (.zero (.zero (.zero (.zero (.zero (.zero (.zero (.zero (.zero (.zero (.zero .nil)))))))))))) rfl tz258 rfl rfl ZC (fun w3 H3 => ?_)
 refine Z01 (Z02 ?_)
 refine Zk [0, 2, 3] ?_
 refine Z1q (ι := Int) (fun (f : Int) (w' : World) => St w w.heap.size Z0J ([As.blk b1_1 258 [.int .i64 31, .int .i64 f, .int .i64 31, .int .i64 30, .int .i64 31, .int .i64 30, .int .i64 31, .int .i64 31, .int .i64 30, .int .i64 31, .int .i64 30, .int .i64 31], As.blk b0_0 258 [.int .i64 0, .int .i64 0, .int .i64 0, .int .i64 0, .int .i64 0, .int .i64 0, .int .i64 0, .int .i64 0, .int .i64 0, .int .i64 0, .int .i64 0, .int .i64 0]]) w' ∧ f = febF y) (fun (f : Int) => []) [2, 3] (.cons rfl (.cons rfl .nil)) ?_ ?_
 ·refine Z03 (Z00 (Zm ?_))
  refine Zp func220 (leapD y hy _) ?_
  refine Z01 (Z02 ?_)
  refine Zk [2, 3, 6] ?_
  (first | refine Z0c rfl ?_ ?_ | refine Z08 rfl ?_ ?_) <;> intro hc0
  ·refine Z00 ?_
   refine Z5r (j := 1) (n := 1) rfl rfl underlying258 tz3 rfl rfl rfl (by decide) ?_
   rw [Nat.mul_one]
   refine Z05 H3 mem0 rfl rfl underlying3 rfl rfl rfl ?_
   refine Z0y rfl rfl rfl rfl (Z0l ZO) ?_
   refine Z5r (j := 1) (n := 1) rfl rfl underlying258 tz3 rfl rfl rfl (by decide) ?_
   rw [Nat.mul_one]
   refine Z0s H3 .head (by repeat (first | exact .zero | apply Z1F.succ)) rfl tz3 rfl rfl ZR (fun w4 H4 => ?_)
   refine Z01 ?_
   have H5 := St.frontL (l := [_]) H4
   simp only [Zca, Zna] at H5
   have H6 := St.frontL (l := [_]) H5
   simp only [Zca, Zna] at H6
   refine Z0w (29) ?_ (.cons rfl (.cons rfl .nil)) ?_
   ·exact ⟨H6, (if_pos (decide_eq_true hc0)).symm⟩
   exact .nil
  refine Z0a ?_
  have H7 := St.frontL (l := [_]) H3
  simp only [Zca, Zna] at H7
  have H8 := St.frontL (l := [_]) H7
  simp only [Zca, Zna] at H8
  refine Z0w (28) ?_ (.cons rfl (.cons rfl .nil)) ?_
  ·exact ⟨H8, (if_neg (fun h => hc0 (of_decide_eq_true h))).symm⟩
  exact .nil
 rintro f w9 ⟨H9, hf⟩
 refine Z03 (Z00 ?_)
 refine Z1b H9 mem0 rfl rfl underlying258 rfl tz258 rfl (.take (.take (.take (.take (.take (.take (.take (.take (.take (.take (.take (.take .nil)))))))))))) ?_
 refine Z0m H9 (.tail .head) (.zero (.zero (.zero (.zero (.zero (.zero (.zero (.zero (.zero (.zero (.zero (.zero .nil)))))))))))) rfl tz258 rfl rfl ZC (fun w10 H10 => ?_)
 refine Z01 (Z02 ?_)
 refine Zk [2] ?_
 refine Z0i ?_
 refine Z2n results178 (.cell rfl (Z0E H10 mem1 underlying258 rfl tz258 (.take (.take (.take (.take (.take (.take (.take (.take (.take (.take (.take (.take .nil))))))))))))) .nil) ?_
 refine ⟨_, rfl, ?_⟩
 have H12 := St.del .head (St.del (.tail .head) H10)
 subst hf
 exact ⟨rfl, H12.grows⟩
theorem lengthD (y m : Int) (hy : 0 ≤ y ∧ y ≤ 9999) (hm : 1 ≤ m ∧ m ≤ 12) (w : World) :
  Z0f P 213 [.int .i64 y, .int .i64 m] w fun r w' => r = .int .i64 (lenF y m) ∧ Grow w w' [] := by
 refine Z0o func213 rfl ntmps213 rfl ?_
 have H0 := St.start w
 refine Z03 (Z00 (Zg (Z01 (Z02 ?_))))
 refine Zk [0, 1] ?_
 refine Z03 (Z03 (Z00 (Zm ?_)))
 refine Zl ?_
 refine Zm ?_
 apply l_or 2 [0, 1] rfl rfl (.cons rfl (.cons rfl (.cons rfl .nil))) rfl rfl (fun _ => rfl) rfl rfl rfl
 ·intro hg1_3
  refine Zm ?_
  refine Zw ?_
  refine Z01 ?_
  exact Z0O rfl (.cons rfl (ZF hg1_3) (.cons rfl rfl (.cons rfl rfl .nil)))
 refine Zm ?_
 apply l_or 2 [0, 1] rfl rfl (.cons rfl (.cons rfl (.cons rfl .nil))) rfl rfl (fun _ => rfl) rfl rfl rfl
 ·intro hg1_7
  refine Zm ?_
  refine Zl ?_
  refine Z01 ?_
  exact Z0O rfl (.cons rfl (ZF hg1_7) (.cons rfl rfl (.cons rfl rfl .nil)))
 refine Zm ?_
 apply l_or 2 [0, 1] rfl rfl (.cons rfl (.cons rfl (.cons rfl .nil))) rfl rfl (fun _ => rfl) rfl rfl rfl
 ·intro hg1_11
  refine Zm ?_
  refine Zw ?_
  refine Z01 ?_
  exact Z0O rfl (.cons rfl (ZF hg1_11) (.cons rfl rfl (.cons rfl rfl .nil)))
 refine Z01 (Z02 ?_)
 refine Zk [0, 1, 18] ?_
 (first | refine Z0c rfl ?_ ?_ | refine Z08 rfl ?_ ?_) <;> intro hc0
 ·refine Z03 (Z00 (Zg (Z01 (Z02 ?_))))
  refine Zk [4] ?_
  refine Z0i ?_
  refine Z07 ?_
  refine Z0e results213 rfl ?_
  refine ⟨_, rfl, ?_⟩
  exact absurd hc0 ZO
 refine Z0a (Z02 ?_)
 refine Zk [0, 1] ?_
 refine Z03 (Z00 (Zm ?_))
 refine Zc func178 (monthsD y hy w) ?_
 rintro _ w1 ⟨rfl, hG⟩
 have H1 := hG _ _ _ _ H0
 simp only [Zca, Zna] at H1
 have hcell : ([.int .i64 31, .int .i64 (febF y), .int .i64 31, .int .i64 30, .int .i64 31, .int .i64 30, .int .i64 31, .int .i64 31, .int .i64 30, .int .i64 31, .int .i64 30, .int .i64 31] : List Value)[(m - 1).toNat]? = some (.int .i64 (lenF y m)) := by
  rcases (show m = 1 ∨ m = 2 ∨ m = 3 ∨ m = 4 ∨ m = 5 ∨ m = 6 ∨ m = 7 ∨ m = 8 ∨ m = 9 ∨ m = 10 ∨ m = 11 ∨ m = 12 by omega) with rfl | rfl | rfl | rfl | rfl | rfl | rfl | rfl | rfl | rfl | rfl | rfl <;> rfl
 refine Zm ?_
 refine Z0W rfl rfl rfl rfl (Z0l ZO) ?_
 refine l_elemv (j := (m - 1).toNat) rfl rfl underlying258 underlying3 rfl tz3 rfl rfl ZO ZO hcell ?_
 refine Zg (Z01 (Z02 ?_))
 refine Zk [4] ?_
 refine Z0i ?_
 refine Z0e results213 rfl ?_
 refine ⟨_, rfl, ?_⟩
 exact ⟨rfl, H1.grows⟩
theorem aheadD (y : Int) (hy : 0 ≤ y ∧ y ≤ 9999) (w : World) :
  Z0f P 177 [.int .i64 y] w fun r w' => ∃ x : Int, r = .int .i64 x ∧ (0 ≤ x ∧ x ≤ 3700000) ∧ w = w' := by
 refine Z0o func177 rfl ntmps177 rfl ?_
 refine Z03 (Z00 (Zg (Z01 (Z02 ?_))))
 refine Zk [0] ?_
 refine Z03 (Z03 (Z00 (Zm ?_)))
 refine Ze ?_
 refine Z01 (Z02 ?_)
 refine Zk [0, 4] ?_
 (first | refine Z0c rfl ?_ ?_ | refine Z08 rfl ?_ ?_) <;> intro hc0
 ·refine Z03 (Z00 (Zg (Z01 (Z02 ?_))))
  refine Zk [2] ?_
  refine Z0i ?_
  refine Z07 ?_
  refine Z0e results177 rfl ?_
  refine ⟨_, rfl, ?_⟩
  exact ⟨_, rfl, ZO, rfl⟩
 refine Z0a (Z02 ?_)
 refine Zk [0] ?_
 refine Z03 (Z00 (Zm ?_))
 refine Z0W rfl rfl rfl rfl (Z0l ZO) ?_
 refine Zg (Z01 (Z02 ?_))
 refine Zk [0] ?_
 refine Z03 (Z00 (Zm ?_))
 refine Z0y rfl rfl rfl rfl (Z0l ZO) ?_
 refine Z20 rfl rfl rfl rfl (Z0l ZO) ?_
 refine Zm ?_
 refine Z2D rfl rfl rfl rfl ZO (Z35 ZO) ?_
 refine Z0y rfl rfl rfl rfl (Z0l ZO) ?_
 refine Zm ?_
 refine Z2D rfl rfl rfl rfl ZO (Z35 ZO) ?_
 refine Z0W rfl rfl rfl rfl (Z0l ZO) ?_
 refine Zm ?_
 refine Z2D rfl rfl rfl rfl ZO (Z35 ZO) ?_
 refine Z0y rfl rfl rfl rfl (Z0l ZO) ?_
 refine Z0y rfl rfl rfl rfl (Z0l ZO) ?_
 refine Zg (Z01 (Z02 ?_))
 refine Zk [2] ?_
 refine Z0i ?_
 refine Z0e results177 rfl ?_
 refine ⟨_, rfl, ?_⟩
 exact ⟨_, rfl, ZO, rfl⟩
theorem daysD (v : Value) (t : L8) (hL : t.length ≤ 1099511627776) (h10 : 10 ≤ t.length) (hd : ∀ j, j < 10 → j ≠ 4 → j ≠ 7 → isD (t.getD j 0)) (w : World) (hv : IB w v t) :
  Z0f P 163 [v] w fun r w' => ∃ n p e : Int, r = .tuple #[.int .i64 n, .int .i64 p, .int .i64 e] ∧ (-719528 ≤ n ∧ n ≤ 4000000) ∧ (0 ≤ p ∧ p ≤ 100) ∧ (e = 0 ∨ e = 131) ∧ Grow w w' [] := by
 refine Z0o func163 rfl ntmps163 rfl ?_
 have H0 := St.start w
 refine Z03 (Z00 (Zg (Zg (Zg (Z01 (Z02 ?_))))))
 refine Zk [0] ?_
 refine Z03 (Z00 (Zm ?_))
 refine Z0I rfl rfl func164 rfl rfl (.cons rfl (.cons rfl (.cons rfl .nil))) (Z6U v t hL 0 4 ZO ZO ZO (fun j h1 h2 => hd j ZO ZO ZO) _ (H0.iarg hv)) ?_
 rintro _ _ ⟨x0, rfl, hx0, rfl⟩
 refine Zm ?_
 refine Z0I rfl rfl func164 rfl rfl (.cons rfl (.cons rfl (.cons rfl .nil))) (Z6U v t hL 5 7 ZO ZO ZO (fun j h1 h2 => hd j ZO ZO ZO) _ (H0.iarg hv)) ?_
 rintro _ _ ⟨x5, rfl, hx5, rfl⟩
 refine Zm ?_
 refine Z0I rfl rfl func164 rfl rfl (.cons rfl (.cons rfl (.cons rfl .nil))) (Z6U v t hL 8 10 ZO ZO ZO (fun j h1 h2 => hd j ZO ZO ZO) _ (H0.iarg hv)) ?_
 rintro _ _ ⟨x8, rfl, hx8, rfl⟩
 have e1 : (10 : Int) ^ (4 - 0) = 10000 := by decide
 have e2 : (10 : Int) ^ (7 - 5) = 100 := by decide
 have e3 : (10 : Int) ^ (10 - 8) = 100 := by decide
 rw [e1] at hx0
 rw [e2] at hx5
 rw [e3] at hx8
 refine Zg (Zg (Zg (Z01 (Z02 ?_))))
 refine Zk [5, 6, 7] ?_
 refine Z03 (Z0d (Z03 (Z00 (Zm ?_))))
 refine Zl ?_
 refine Zm ?_
 apply l_or 2 [5, 6, 7] rfl rfl (.cons rfl (.cons rfl (.cons rfl (.cons rfl .nil)))) rfl rfl (fun _ => rfl) rfl rfl rfl
 ·intro hg2_3
  refine Zm ?_
  refine Zw ?_
  refine Z01 ?_
  exact Z0O rfl (.cons rfl (ZF hg2_3) (.cons rfl rfl (.cons rfl rfl (.cons rfl rfl .nil))))
  all_goals infer_instance
 refine Zg (Z01 (Z02 ?_))
 refine Zk [5, 6, 7, 15] ?_
 (first | refine Z0c rfl ?_ ?_ | refine Z08 rfl ?_ ?_) <;> intro hc0
 ·refine Z03 (Z00 (Zg (Zg (Zg (Z01 (Z02 ?_))))))
  refine Zk [2, 3, 4] ?_
  refine Z0i ?_
  refine Z0k ?_
  refine Z07 ?_
  refine Z12 results163 (.tmp rfl (.tmp rfl (.tmp rfl .nil))) rfl ?_
  refine ⟨_, rfl, ?_⟩
  exact ⟨_, _, _, rfl, ZO, ZO, .inr rfl, H0.grows⟩
 refine Z03 (Z00 (Zm ?_))
 refine Zl ?_
 refine Zm ?_
 apply l_orS H0 (q := lenF x0 x5 < x8) 5 [5, 6, 7] rfl rfl (.cons rfl (.cons rfl (.cons rfl (.cons rfl .nil)))) rfl rfl (fun _ => rfl) rfl rfl rfl
 ·intro hg4_3
  refine Zm (Zm (Zm ?_))
  refine Zc func213 (lengthD x0 x5 ZO ZO w) ?_
  rintro _ w1 ⟨rfl, hG⟩
  have H1 := hG _ _ _ _ H0
  simp only [Zca, Zna] at H1
  refine Zw ?_
  refine Z01 ?_
  exact Z1P H1 rfl (.cons rfl (ZF hg4_3) (.cons rfl rfl (.cons rfl rfl (.cons rfl rfl .nil))))
  all_goals infer_instance
 intro w2 H2
 refine Zg (Z01 (Z02 ?_))
 refine Zk [5, 6, 7, 22] ?_
 (first | refine Z0c rfl ?_ ?_ | refine Z08 rfl ?_ ?_) <;> intro hc1
 ·refine Z03 (Z00 (Zg (Zg (Zg (Z01 (Z02 ?_))))))
  refine Zk [2, 3, 4] ?_
  refine Z0i ?_
  refine Z0k ?_
  refine Z07 ?_
  refine Z12 results163 (.tmp rfl (.tmp rfl (.tmp rfl .nil))) rfl ?_
  refine ⟨_, rfl, ?_⟩
  exact ⟨_, _, _, rfl, ZO, ZO, .inr rfl, H2.grows⟩
 refine Z0a ?_
 refine Z0F ?_
 refine Z02 ?_
 refine Zk [5, 6, 7] ?_
 refine Z03 (Z00 (Zm ?_))
 refine Zc func177 (aheadD x0 ZO _) ?_
 rintro _ _ ⟨ax, rfl, hax, rfl⟩
 refine Z0y rfl rfl rfl rfl (Z0l ZO) ?_
 refine Zm ?_
 refine Z0y rfl rfl rfl rfl (Z0l ZO) ?_
 refine Z0W rfl rfl rfl rfl (Z0l ZO) ?_
 refine Zg (Z01 (Z02 ?_))
 refine Zk [2, 5, 6] ?_
 refine Z03 (Z03 (Z00 (Zg (Z01 (Z02 (Z0d ?_))))))
 refine Z0z (ι := Int × Int) (fun (z0 : Int × Int) => match z0 with | ⟨i, n⟩ => (x5 - i).toNat) (fun (z0 : Int × Int) (w' : World) => match z0 with | ⟨i, n⟩ => St w w.heap.size Z0J ([]) w' ∧ 1 ≤ i ∧ i ≤ 12 ∧ -719528 ≤ n ∧ n ≤ 3000000 + 31 * i) (fun (z0 : Int × Int) => match z0 with | ⟨i, n⟩ => [(2, .int .i64 n), (8, .int .i64 i)]) [5, 6] (1, -719528 + ax + x8 - 1) ?_ (.cons rfl (.cons rfl .nil)) ?_ ?_
 ·exact ⟨H2, ZO, ZO, ZO, ZO⟩
 ·exact (.cons rfl ZN (.cons rfl ZN .nil))
 rintro ⟨i, n⟩ w3 ⟨H3, hi, hi12, hn, hn2⟩
 show RunC P _ _ _ (_ :: _) _
 have hlx := lenF_bd x0 i
 refine Z03 (Z03 (Z00 (Zm (Zm ?_))))
 refine Zl ?_
 refine Z01 (Z02 ?_)
 refine Zk [2, 5, 6, 8, 40] ?_
 (first | refine Z0c rfl ?_ ?_ | refine Z08 rfl ?_ ?_) <;> intro hc2
 ·refine Z0a (Z02 ?_)
  refine Zk [2, 5, 6, 8] ?_
  refine Z03 (Z0d (Z00 (Zm (Zm (Zm ?_)))))
  refine Zc func213 (lengthD x0 i ZO ZO w3) ?_
  rintro _ w4 ⟨rfl, hG⟩
  have H4 := hG _ _ _ _ H3
  simp only [Zca, Zna] at H4
  refine Z0y rfl rfl rfl rfl (Z0l ZO) ?_
  refine Zg (Z01 ?_)
  refine Z0F ?_
  refine Z02 ?_
  refine Zk [2, 5, 6, 8] ?_
  refine Z00 (Zm ?_)
  refine Z0y rfl rfl rfl rfl (Z0l ZO) ?_
  refine Zg (Z01 ?_)
  refine Z0p (i := (i, n)) (i + 1, n + lenF x0 i) ?_ ?_ (.cons rfl (.cons rfl .nil)) ?_
  ·first | omega | (simp; omega)
  ·exact ⟨H4, ZO, ZO, ZO, ZO⟩
  exact (.cons rfl ZN (.cons rfl ZN .nil))
 refine Z0H ?_
 refine Z06 ?_
 refine Z06 ?_
 refine Z0h ?_
 refine Z02 ?_
 refine Zk [2] ?_
 refine Z03 (Z00 (Zm (Zg (Zg (Zg (Z01 (Z02 ?_)))))))
 refine Zk [2, 3, 4] ?_
 refine Z0i ?_
 refine Z12 results163 (.tmp rfl (.tmp rfl (.tmp rfl .nil))) rfl ?_
 refine ⟨_, rfl, ?_⟩
 exact ⟨_, _, _, rfl, ZO, ZO, .inl rfl, H3.grows⟩
def dayP : L8 := [100, 100, 100, 100, 45, 100, 100, 45, 100, 100]
def momP : L8 := [100, 100, 100, 100, 45, 100, 100, 45, 100, 100, 84, 100, 100, 58, 100, 100, 58, 100, 100]
theorem dayP_d {t : L8} {n : Nat} (hn : 10 ≤ n) (h : ∀ j, j < n → dayP.getD j 0 = 100 → isD (t.getD j 0)) : ∀ j, j < 10 → j ≠ 4 → j ≠ 7 → isD (t.getD j 0) := fun j h1 h2 h3 => h j (by omega) (by
 rcases (show j = 0 ∨ j = 1 ∨ j = 2 ∨ j = 3 ∨ j = 5 ∨ j = 6 ∨ j = 8 ∨ j = 9 by omega) with rfl | rfl | rfl | rfl | rfl | rfl | rfl | rfl <;> rfl)
theorem momP_d {t : L8} {n : Nat} (hn : 19 ≤ n) (h : ∀ j, j < n → momP.getD j 0 = 100 → isD (t.getD j 0)) : (∀ j, j < 10 → j ≠ 4 → j ≠ 7 → isD (t.getD j 0)) ∧ ∀ i j, i < 3 → 11 + 3 * i ≤ j → j < 13 + 3 * i → isD (t.getD j 0) := by
 refine ⟨fun j h1 h2 h3 => h j ZO ?_, fun i j hi h1 h2 => h j ZO ?_⟩
 ·rcases (show j = 0 ∨ j = 1 ∨ j = 2 ∨ j = 3 ∨ j = 5 ∨ j = 6 ∨ j = 8 ∨ j = 9 by omega) with rfl | rfl | rfl | rfl | rfl | rfl | rfl | rfl <;> rfl
 rcases (show j = 11 ∨ j = 12 ∨ j = 14 ∨ j = 15 ∨ j = 17 ∨ j = 18 by omega) with rfl | rfl | rfl | rfl | rfl | rfl <;> rfl
theorem wrapU_i (x : Int) : u64I (IntKind.wrap .u64 x) := Z5E x
theorem DayD (v : Value) (t : L8) (hL : t.length ≤ 1099511627776) (w : World) (hv : IB w v t) :
  Z0f P 87 [v] w fun r w' => ∃ b p e : Int, r = .tuple #[.int .u64 b, .int .i64 p, .int .i64 e] ∧ u64I b ∧ i64I e ∧ Grow w w' [] := by
 refine Z0o func87 rfl ntmps87 rfl ?_
 have H0 := St.start w
 refine Z03 (Z00 (Zg (Zg (Zg (Z01 (Z02 ?_))))))
 refine Zk [0] ?_
 refine Z03 (Z03 (Z00 (Zm ?_)))
 refine Zc func162 (formD v t hL dayP (by decide) w (H0.iarg hv)) ?_
 rintro _ w1 ⟨n, rfl, hn, hG⟩
 have H1 := hG _ _ _ _ H0
 simp only [Zca, Zna] at H1
 refine Zg (Z01 (Z02 ?_))
 refine Zk [0, 5] ?_
 refine Z03 (Z00 (Zm ?_))
 refine Zl ?_
 refine Zm ?_
 apply l_or (q := (n : Int) < (t.length : Int)) 4 [0, 5] rfl rfl (.cons rfl (.cons rfl (.cons rfl .nil))) rfl rfl (fun _ => rfl) rfl rfl rfl
 ·intro hg2_3
  refine Zm (Zm ?_)
  refine Z4W rfl rfl underlying25 rfl (by first | exact H1.iarg hv | assumption) ?_
  refine Zl ?_
  refine Z01 ?_
  exact Z0O rfl (.cons rfl (ZF hg2_3) (.cons rfl rfl (.cons rfl rfl .nil)))
  all_goals infer_instance
 refine Z01 (Z02 ?_)
 refine Zk [0, 5, 16] ?_
 (first | refine Z0c rfl ?_ ?_ | refine Z08 rfl ?_ ?_) <;> intro hc0
 ·refine Z03 (Z00 (Zm (Zg (Zg (Zg (Z01 (Z02 ?_)))))))
  refine Zk [2, 3, 4] ?_
  refine Z0i ?_
  refine Z07 ?_
  refine Z12 results87 (.tmp rfl (.tmp rfl (.tmp rfl .nil))) rfl ?_
  refine ⟨_, rfl, ?_⟩
  exact ⟨_, _, _, rfl, ZO, ZO, H1.grows⟩
 refine Z0a (Z02 ?_)
 refine Zk [0] ?_
 refine Z03 (Z00 (Zm ?_))
 refine Zc func163 (daysD v t hL ZO (dayP_d (n := n) ZO hn.2.2) w1 (H1.iarg hv)) ?_
 rintro _ w2 ⟨d, p, e, rfl, hd, hp, he, hG⟩
 have H2 := hG _ _ _ _ H1
 simp only [Zca, Zna] at H2
 refine Zm ?_
 refine Zx (Zx (Zx (Zg (Zg (Zg (Z01 (Z02 ?_)))))))
 refine Zk [3, 4, 6] ?_
 refine Z03 (Z00 (Zm ?_))
 refine Z5a rfl rfl underlying3 underlying24 rfl (rfl) ?_
 refine Zm (Zm (Zg (Zg (Zg (Z01 (Z02 ?_))))))
 refine Zk [2, 3, 4] ?_
 refine Z0i ?_
 refine Z12 results87 (.tmp rfl (.tmp rfl (.tmp rfl .nil))) rfl ?_
 refine ⟨_, rfl, ?_⟩
 exact ⟨_, _, _, rfl, wrapU_i _, ZO, H2.grows⟩
theorem MomentD (v : Value) (t : L8) (hL : t.length ≤ 1099511627776) (w : World) (hv : IB w v t) :
  Z0f P 89 [v] w fun r w' => ∃ b p e : Int, r = .tuple #[.int .u64 b, .int .i64 p, .int .i64 e] ∧ u64I b ∧ i64I e ∧ Grow w w' [] := by
 refine Z0o func89 rfl ntmps89 rfl ?_
 have H0 := St.start w
 refine Z03 (Z00 (Zg (Zg (Zg (Z01 (Z02 ?_))))))
 refine Zk [0] ?_
 refine Z03 (Z00 (Zm ?_))
 refine Zc func162 (formD v t hL momP (by decide) w (H0.iarg hv)) ?_
 rintro _ w1 ⟨n, rfl, hn, hG⟩
 have H1 := hG _ _ _ _ H0
 simp only [Zca, Zna] at H1
 refine Zg (Z01 (Z02 ?_))
 refine Zk [0, 5] ?_
 refine Z03 (Z00 (Zm (Zg (Z01 (Z02 ?_)))))
 refine Zk [0, 5, 6] ?_
 refine Z1q (ι := Int) (fun (en : Int) (w' : World) => St w w.heap.size Z0J ([]) w' ∧ ((en = (n : Int) ∧ ¬ (((n : Int) = 19 ∧ (n : Int) < (t.length : Int)) ∧ ((t.getD n 0).toNat : Int) = 46)) ∨ (n < t.length ∧ en = (n : Int) + 1 + min (run (t.drop (n + 1)) : Int) 6))) (fun (en : Int) => [(6, .int .i64 en)]) [0, 5] (.cons rfl (.cons rfl .nil)) ?_ ?_
 ·refine Z03 (Z00 (Zm ?_))
  refine Ze ?_
  refine Zm ?_
  apply Z47 (q := (n : Int) < (t.length : Int)) 4 [0, 5, 6] rfl rfl (.cons rfl (.cons rfl (.cons rfl (.cons rfl .nil)))) rfl rfl (fun _ => rfl) rfl rfl rfl
  ·intro hg3_3
   refine Zm (Zm ?_)
   refine Z4W rfl rfl underlying25 rfl (by first | exact H1.iarg hv | assumption) ?_
   refine Zl ?_
   refine Z01 ?_
   exact Z0O rfl (.cons rfl (ZT hg3_3) (.cons rfl rfl (.cons rfl rfl (.cons rfl rfl .nil))))
   all_goals infer_instance
  refine Zm ?_
  apply Z47 (q := ((t.getD n 0).toNat : Int) = 46) 5 [0, 5, 6] rfl rfl (.cons rfl (.cons rfl (.cons rfl (.cons rfl .nil)))) rfl rfl (fun _ => rfl) rfl rfl rfl
  ·intro hg3_9
   refine Zm (Zm ?_)
   refine Z4Z (j := n) rfl rfl rfl rfl underlying25 tz5 underlying5 rfl rfl (by first | exact H1.iarg hv | assumption) rfl ZO ZI (fun hb3_11 => ?_)
   refine Ze ?_
   refine Z01 ?_
   exact Z0O rfl (.cons rfl (ZT hg3_9) (.cons rfl rfl (.cons rfl rfl (.cons rfl rfl .nil))))
   all_goals infer_instance
  refine Z01 (Z02 ?_)
  refine Zk [0, 5, 6, 31] ?_
  (first | refine Z0c rfl ?_ ?_ | refine Z08 rfl ?_ ?_) <;> intro hc0
  ·refine Z00 (Zm ?_)
   refine Z0y rfl rfl rfl rfl (Z0l ZO) ?_
   refine Zm (Zm ?_)
   refine Z0y rfl rfl rfl rfl (Z0l ZO) ?_
   refine Zp func147 (Z5u v t ZO (n + 1) ZO w1 (H1.iarg hv)) ?_
   refine l_min rfl rfl rfl rfl ?_
   refine Z0y rfl rfl rfl rfl (Z0l ZO) ?_
   refine Zg (Z01 ?_)
   refine Z0w ((n : Int) + 1 + min (run (t.drop (n + 1)) : Int) 6) ?_ (.cons rfl (.cons rfl .nil)) ?_
   ·exact ⟨H1, .inr ⟨ZO, rfl⟩⟩
   exact (.cons rfl ZN .nil)
  refine Z0a ?_
  refine Z0w ((n : Int)) ?_ (.cons rfl (.cons rfl .nil)) ?_
  ·exact ⟨H1, .inl ⟨rfl, hc0⟩⟩
  exact (.cons rfl ZN .nil)
 rintro en w2 ⟨H2, hen⟩
 show RunC P _ _ _ (_ :: _) _
 refine Z03 (Z03 (Z00 (Zm ?_)))
 refine Zl ?_
 refine Zm ?_
 apply l_or (q := en < (t.length : Int)) 4 [0, 5, 6] rfl rfl (.cons rfl (.cons rfl (.cons rfl (.cons rfl .nil)))) rfl rfl (fun _ => rfl) rfl rfl rfl
 ·intro hg5_3
  refine Zm (Zm ?_)
  refine Z4W rfl rfl underlying25 rfl (by first | exact H2.iarg hv | assumption) ?_
  refine Zl ?_
  refine Z01 ?_
  exact Z0O rfl (.cons rfl (ZF hg5_3) (.cons rfl rfl (.cons rfl rfl (.cons rfl rfl .nil))))
  all_goals infer_instance
 refine Zm ?_
 apply l_or (q := en = (n : Int) + 1) 4 [0, 5, 6] rfl rfl (.cons rfl (.cons rfl (.cons rfl (.cons rfl .nil)))) rfl rfl (fun _ => rfl) rfl rfl rfl
 ·intro hg5_9
  refine Zm (Zm ?_)
  refine Z0y rfl rfl rfl rfl (Z0l ZO) ?_
  refine Ze ?_
  refine Z01 ?_
  exact Z0O rfl (.cons rfl (ZF hg5_9) (.cons rfl rfl (.cons rfl rfl (.cons rfl rfl .nil))))
  all_goals infer_instance
 refine Z01 (Z02 ?_)
 refine Zk [0, 5, 6, 53] ?_
 (first | refine Z0c rfl ?_ ?_ | refine Z08 rfl ?_ ?_) <;> intro hc1
 ·refine Z03 (Z00 (Zm (Zg (Zg (Zg (Z01 (Z02 ?_)))))))
  refine Zk [2, 3, 4] ?_
  refine Z0i ?_
  refine Z07 ?_
  refine Z12 results89 (.tmp rfl (.tmp rfl (.tmp rfl .nil))) rfl ?_
  refine ⟨_, rfl, ?_⟩
  exact ⟨_, _, _, rfl, ZO, ZO, H2.grows⟩
 refine Z0a (Z02 ?_)
 refine Zk [0, 5, 6] ?_
 refine Z03 (Z00 ?_)
 have hn19 : n = 19 := by have := hn.2.1; simp [momP] at this; omega
 have hmd := momP_d (n := n) ZO hn.2.2
 have het : en = (t.length : Int) ∧ (en = 19 ∨ 21 ≤ en) := by
  rcases hen with ⟨h1, h2⟩ | ⟨h1, h2⟩
  ·omega
  have hrl := Z4X t (n + 1) ZO
  omega
 refine Zm ?_
 refine Zc func163 (daysD v t hL ZO hmd.1 w2 (H2.iarg hv)) ?_
 rintro _ w3 ⟨d, p, e, rfl, hd, hp, he, hG⟩
 have H3 := hG _ _ _ _ H2
 simp only [Zca, Zna] at H3
 refine Zm ?_
 refine Zx (Zx (Zx (Zg (Zg (Zg (Z01 (Z02 ?_)))))))
 refine Zk [0, 3, 4, 5, 6, 7] ?_
 refine Z03 (Z03 (Z00 (Zm ?_)))
 refine Zo ?_
 refine Z01 (Z02 ?_)
 refine Zk [0, 3, 4, 5, 6, 7, 62] ?_
 (first | refine Z0c rfl ?_ ?_ | refine Z08 rfl ?_ ?_) <;> intro hc2
 ·refine Z03 (Z00 (Zm (Zm (Zg (Zg (Zg (Z01 (Z02 ?_))))))))
  refine Zk [2, 3, 4] ?_
  refine Z0i ?_
  refine Z07 ?_
  refine Z12 results89 (.tmp rfl (.tmp rfl (.tmp rfl .nil))) rfl ?_
  refine ⟨_, rfl, ?_⟩
  exact ⟨_, _, _, rfl, ZO, ZO, H3.grows⟩
 refine Z0a (Z02 ?_)
 refine Zk [0, 5, 6, 7] ?_
 refine Z03 (Z00 (Zg (Z01 (Z02 (Z03 (Z03 (Z00 ?_)))))))
 refine Z6r (pl := [(0, 1), (1, 1), (2, 1)]) rfl rfl underlying242 tz3 ta242 (by intro i q h; rcases i with _ | _ | _ | i <;> simp at h <;> (try subst h) <;> rfl) (.one rfl rfl ZR .zero (.one rfl rfl ZR (.succ .zero) (.one rfl rfl ZR (.succ (.succ .zero)) .nil))) ?_
 refine Zm (Z01 (Z02 (Z0d ?_)))
 refine Z0z (ι := Nat × Int) (fun (z0 : Nat × Int) => match z0 with | ⟨i, mi⟩ => 3 - i) (fun (z0 : Nat × Int) (w' : World) => match z0 with | ⟨i, mi⟩ => St w w.heap.size Z0J ([]) w' ∧ i ≤ 3 ∧ 0 ≤ mi ∧ mi < 60 ^ i) (fun (z0 : Nat × Int) => match z0 with | ⟨i, mi⟩ => [(8, .int .i64 mi), (66, .int .i64 (i : Int))]) [0, 5, 6, 7, 65] (0, 0) ?_ (.cons rfl (.cons rfl (.cons rfl (.cons rfl (.cons rfl .nil))))) ?_ ?_
 ·exact ⟨H3, ZO, ZO, by decide⟩
 ·exact (.cons rfl ZN (.cons rfl ZN .nil))
 rintro ⟨i, mi⟩ w4 ⟨H4, hi, hm0, hm1⟩
 show RunC P _ _ _ (_ :: _) _
 have hp3 : (60 : Int) ^ i ≤ 216000 := by
  have h := Ma.pow_mono (show (1 : Int) ≤ 60 by omega) (show i ≤ 3 by omega)
  simpa using h
 have hps : (60 : Int) ^ (i + 1) = 60 ^ i * 60 := Int.pow_succ ..
 refine Z03 (Z00 ?_)
 refine Zl ?_
 refine Z01 (Z02 (Z03 ?_))
 (first | refine Z0c rfl ?_ ?_ | refine Z08 rfl ?_ ?_) <;> intro hc3
 ·refine Z0a (Z02 ?_)
  refine Zk [0, 5, 6, 7, 8, 65, 66] ?_
  refine Z03 (Z0d (Z03 (Z00 ?_)))
  have hi3 : i < 3 := by omega
  have hcell : ([.int .i64 23, .int .i64 59, .int .i64 59] : List Value)[i]? = some (.int .i64 (if i = 0 then 23 else 59)) := by
   rcases (show i = 0 ∨ i = 1 ∨ i = 2 by omega) with rfl | rfl | rfl <;> rfl
  have hmo : (if i = 0 then (23 : Int) else 59) ≤ 59 := by split <;> omega
  refine Zm ?_
  refine l_elemv (j := i) rfl rfl underlying242 underlying3 rfl tz3 rfl rfl rfl ZO hcell ?_
  refine Zg (Zg (Z01 (Z02 ?_)))
  refine Zk [0, 5, 6, 7, 8, 9, 10, 65, 66] ?_
  refine Z03 (Z00 (Zm ?_))
  refine Z20 rfl rfl rfl rfl (Z0l ZO) ?_
  refine Z0y rfl rfl rfl rfl (Z0l ZO) ?_
  refine Zg (Z01 (Z02 ?_))
  refine Zk [0, 5, 6, 7, 8, 10, 11, 65, 66] ?_
  refine Z03 (Z00 (Zm (Zm (Zm ?_))))
  refine Z0y rfl rfl rfl rfl (Z0l ZO) ?_
  refine Z0j (s := 74) (v' := .int .i64 ((11 + 3 * i : Nat) : Int)) rfl (congrArg (Value.int .i64) ZO) ?_
  refine Z0j (s := 76) (v' := .int .i64 ((13 + 3 * i : Nat) : Int)) rfl (congrArg (Value.int .i64) ZO) ?_
  refine Z0I rfl rfl func164 rfl rfl (.cons rfl (.cons rfl (.cons rfl .nil))) (Z6U v t hL (11 + 3 * i) (13 + 3 * i) ZO ZO ZO (fun j h1 h2 => hmd.2 i j ZO h1 h2) _ (H4.iarg hv)) ?_
  rintro _ _ ⟨x, rfl, hx, rfl⟩
  refine Zg (Z01 (Z02 ?_))
  refine Zk [0, 5, 6, 7, 8, 10, 11, 12, 65, 66] ?_
  refine Z03 (Z03 (Z00 ?_))
  have e2 : (10 : Int) ^ (13 + 3 * i - (11 + 3 * i)) = 100 := by rw [show 13 + 3 * i - (11 + 3 * i) = 2 by omega]; decide
  rw [e2] at hx
  refine Zm (Zm ?_)
  refine Zw ?_
  refine Z01 (Z02 ?_)
  refine Zk [0, 5, 6, 7, 8, 11, 12, 65, 66, 80] ?_
  (first | refine Z0c rfl ?_ ?_ | refine Z08 rfl ?_ ?_) <;> intro hc4
  ·refine Z03 (Z00 (Zm (Zg (Zg (Zg (Z01 (Z02 ?_)))))))
   refine Zk [2, 3, 4] ?_
   refine Z0i ?_
   refine Z07 ?_
   refine Z0k ?_
   refine Z07 ?_
   refine Z07 ?_
   refine Z0k ?_
   refine Z07 ?_
   refine Z12 results89 (.tmp rfl (.tmp rfl (.tmp rfl .nil))) rfl ?_
   refine ⟨_, rfl, ?_⟩
   exact ⟨_, _, _, rfl, ZO, ZO, H4.grows⟩
  refine Z0a (Z02 ?_)
  refine Zk [0, 5, 6, 7, 8, 12, 65, 66] ?_
  refine Z00 (Zm ?_)
  refine Z20 rfl rfl rfl rfl (Z0l ZO) ?_
  refine Zm ?_
  refine Z0y rfl rfl rfl rfl (Z0l ZO) ?_
  refine Zg (Z01 ?_)
  refine Z0F ?_
  refine Z02 ?_
  refine Zk [0, 5, 6, 7, 8, 65, 66] ?_
  refine Z00 ?_
  refine Z0y rfl rfl rfl rfl (Z0l ZO) ?_
  refine Zm (Z01 ?_)
  refine Z0p (i := (i, mi)) (i + 1, 60 * mi + x) ?_ ?_ (.cons rfl (.cons rfl (.cons rfl (.cons rfl (.cons rfl .nil))))) ?_
  ·first | omega | (simp; omega)
  ·exact ⟨H4, ZO, ZO, ZO⟩
  exact (.cons rfl ZN (.cons rfl ZN .nil))
 refine Z0H ?_
 refine Z06 ?_
 refine Z06 ?_
 refine Z0h ?_
 refine Z02 ?_
 refine Zk [0, 5, 6, 7, 8] ?_
 refine Z03 (Z03 (Z00 ?_))
 have hp3 : (60 : Int) ^ i ≤ 216000 := by
  have h := Ma.pow_mono (show (1 : Int) ≤ 60 by omega) (show i ≤ 3 by omega)
  simpa using h
 refine Zm (Z01 (Z02 (Z0d ?_)))
 refine Z0z (ι := Nat × Int) (fun (z0 : Nat × Int) => match z0 with | ⟨i, mu⟩ => 6 - i) (fun (z0 : Nat × Int) (w' : World) => match z0 with | ⟨i, mu⟩ => St w w.heap.size Z0J ([]) w' ∧ i ≤ 6 ∧ 0 ≤ mu ∧ mu < 216000 * 10 ^ i) (fun (z0 : Nat × Int) => match z0 with | ⟨i, mu⟩ => [(8, .int .i64 mu), (87, .int .i64 (i : Int))]) [0, 5, 6, 7] (0, mi) ?_ (.cons rfl (.cons rfl (.cons rfl (.cons rfl .nil)))) ?_ ?_
 ·exact ⟨H4, ZO, ZO, by simp; omega⟩
 ·exact (.cons rfl ZN (.cons rfl ZN .nil))
 rintro ⟨i, mu⟩ w5 ⟨H5, hi6, hu0, hu1⟩
 show RunC P _ _ _ (_ :: _) _
 have hp6 : (10 : Int) ^ i ≤ 1000000 := by
  have h := Ma.pow_mono (show (1 : Int) ≤ 10 by omega) (show i ≤ 6 by omega)
  simpa using h
 have hps : (10 : Int) ^ (i + 1) = 10 ^ i * 10 := Int.pow_succ ..
 refine Z03 (Z00 ?_)
 refine Zl ?_
 refine Z01 (Z02 (Z03 ?_))
 (first | refine Z0c rfl ?_ ?_ | refine Z08 rfl ?_ ?_) <;> intro hc5
 ·refine Z0a (Z02 ?_)
  refine Zk [0, 5, 6, 7, 8, 87] ?_
  refine Z03 (Z0d (Z03 (Z00 (Zm (Zg (Z01 (Z02 ?_)))))))
  refine Zk [0, 5, 6, 7, 8, 13, 87] ?_
  refine Z03 (Z00 (Zm ?_))
  refine Z20 rfl rfl rfl rfl (Z0l ZO) ?_
  refine Zg (Z01 (Z02 ?_))
  refine Zk [0, 5, 6, 7, 8, 13, 87] ?_
  refine Z03 (Z00 (Zm ?_))
  refine Z0y rfl rfl rfl rfl (Z0l ZO) ?_
  refine Zm ?_
  refine Z0y rfl rfl rfl rfl (Z0l ZO) ?_
  refine Zm ?_
  refine Zl ?_
  refine Z01 (Z02 ?_)
  refine Zk [0, 5, 6, 7, 8, 13, 87, 97] ?_
  (first | refine Z0c rfl ?_ ?_ | refine Z08 rfl ?_ ?_) <;> intro hc6
  ·refine Z00 ?_
   have hdr : n + 1 + i < t.length ∧ isD (t.getD (n + 1 + i) 0) := by
    have hrl := Z4X t (n + 1) ZO
    rcases hen with ⟨h1, h2⟩ | ⟨h1, h2⟩
    ·omega
    exact ⟨ZO, run_drop_all t (n + 1) i ZO⟩
   have hdu := isD_u8 hdr.2
   refine Zm (Zm (Zm ?_))
   refine Z0y rfl rfl rfl rfl (Z0l ZO) ?_
   refine Zm ?_
   refine Z0y rfl rfl rfl rfl (Z0l ZO) ?_
   refine Z4Z (j := n + 1 + i) rfl rfl rfl rfl underlying25 tz5 underlying5 rfl rfl (by first | exact H5.iarg hv | assumption) rfl ZO ZI (fun hb25_6 => ?_)
   refine Z0W rfl rfl rfl rfl (w_u8 ZO) ?_
   refine Z5a rfl rfl underlying5 underlying3 rfl (Z0l ZO) ?_
   refine Z0y rfl rfl rfl rfl (Z0l ZO) ?_
   refine Zg (Z01 ?_)
   refine Z0F ?_
   refine Z02 ?_
   refine Zk [0, 5, 6, 7, 8, 87] ?_
   refine Z00 ?_
   refine Z0y rfl rfl rfl rfl (Z0l ZO) ?_
   refine Zm (Z01 ?_)
   refine Z0p (i := (i, mu)) (i + 1, mu * 10 + ((t.getD (n + 1 + i) 0).toNat - 48 : Int)) ?_ ?_ (.cons rfl (.cons rfl (.cons rfl (.cons rfl .nil)))) ?_
   ·first | omega | (simp; omega)
   ·exact ⟨H5, ZO, ZO, ZO⟩
   exact (.cons rfl ZN (.cons rfl ZN .nil))
  refine Z0a ?_
  refine Z0F ?_
  refine Z02 ?_
  refine Zk [0, 5, 6, 7, 8, 87] ?_
  refine Z00 ?_
  refine Z0y rfl rfl rfl rfl (Z0l ZO) ?_
  refine Zm (Z01 ?_)
  refine Z0p (i := (i, mu)) (i + 1, mu * 10) ?_ ?_ (.cons rfl (.cons rfl (.cons rfl (.cons rfl .nil)))) ?_
  ·first | omega | (simp; omega)
  ·exact ⟨H5, ZO, ZO, ZO⟩
  exact (.cons rfl ZN (.cons rfl ZN .nil))
 refine Z0H ?_
 refine Z06 ?_
 refine Z06 ?_
 refine Z0h ?_
 refine Z02 ?_
 refine Zk [7, 8] ?_
 refine Z03 (Z00 ?_)
 have hp6 : (10 : Int) ^ i ≤ 1000000 := by
  have h := Ma.pow_mono (show (1 : Int) ≤ 10 by omega) (show i ≤ 6 by omega)
  simpa using h
 refine Zm ?_
 refine Z20 rfl rfl rfl rfl (Z0l ZO) ?_
 refine Zm ?_
 refine Z0y rfl rfl rfl rfl (Z0l ZO) ?_
 refine Z5a rfl rfl underlying3 underlying24 rfl (rfl) ?_
 refine Zg (Zg (Zg (Z01 (Z02 ?_))))
 refine Zk [2, 3, 4] ?_
 refine Z0i ?_
 refine Z12 results89 (.tmp rfl (.tmp rfl (.tmp rfl .nil))) rfl ?_
 refine ⟨_, rfl, ?_⟩
 exact ⟨_, _, _, rfl, wrapU_i _, ZO, H5.grows⟩
section
variable {P : Program} {N : Nat} {ρ : Env} {w : World} {Q : Post}
theorem l_makeI {Q : Z26} {ops : Array Oper} {rest : List Oper} {d : Nat} {ty : TypeId} {pos : String} {af : Array Edge} {g : Option (Nat × Bool)} {x : Operand} {v : Value} {t : TypeId} (hg : Z0t ops ρ g = true) (hN : Nat.blt d N = true) (hc : P.concrete t = true) (hx : Z0g ρ x = some v)
  (n : RunL P N ops Q rest ((d, .iface t v) :: ρ) w) : RunL P N ops Q (⟨some d, .makeInterface t x, ty, pos, af, g⟩ :: rest) ρ w :=
 Z1n hg rfl hN (fun a ha => by simp [execOp, ha.eval hx, run_makeInterface w t v hc]) n
theorem l_panic {ops : Array Oper} {ty : TypeId} {pos : String} {af : Array Edge} {rest : List Oper} {x : Operand} {t : TypeId} {v : Value} (hx : Z0g ρ x = some (.iface t v)) (n : RunE N (.panic [{ v := .iface t v, recovered := false }]) Q ρ w) : RunL P N ops ⟨false, Q⟩ (⟨none, .panic x, ty, pos, af, none⟩ :: rest) ρ w := fun a ha => by
 have hr : (execOp a.eval ⟨none, .panic x, ty, pos, af, none⟩).run P w = .halt (.panic (.iface t v)) w := by
  have h1 : (Instr.panic (.iface t v)).run P w = .halt (.panic (.iface t v)) w := rfl
  simp [execOp, ha.eval hx, h1]
 unfold lst
 simp only [cond_false]
 unfold wpList
 rw [if_pos (by simp [Region.wanted])]
 refine .inl ?_
 unfold Oper.wp
 rw [hr, Oper.upon_panic]
 exact n a ha
theorem Z5m {K : Act → World → Prop} {ch : List PanicEntry} (n : RunE N (.panic ch) Q ρ w) : RunE N (.panic ch) (Exit.then K Q) ρ w := n
theorem e_blk_panic {i : Nat} {ch : List PanicEntry} (n : RunE N (.panic ch) Q ρ w) : RunE N (.panic ch) (Exit.inBlock i Q) ρ w := n
theorem Z6V {fn : Func} {R : Ending → World → Prop} {ch : List PanicEntry} (h : R (.panicked ch) w) : RunE N (.panic ch) (bodyPost P fn R) ρ w := fun a ha => ⟨ha.1, h⟩
def CallsP (P : Program) (f : FuncId) (args : List Value) (w : World) (R K : Value → World → Prop) : Prop := Calls P f args.toArray w fun e w' => (∃ v, e = .returned v ∧ R v w') ∨ ∃ v, e = .panicked [{ v := v, recovered := false }] ∧ K v w'
theorem enterP {f : FuncId} {fn : Func} {c : Code} {args : List Value} {R K : Value → World → Prop} (hf : P.funcs[f]? = some fn) (hb : fn.body = some c) (hn : fn.ntmps = N)
  (hN : Nat.ble args.length N = true) (n : RunC P N c (bodyPost P fn (fun e w' => (∃ v, e = .returned v ∧ R v w') ∨ ∃ v, e = .panicked [{ v := v, recovered := false }] ∧ K v w')) (args0 0 args) w) : CallsP P f args w R K := by
 subst hn
 exact enter hf hb hN n
end
theorem pv_mono_take {l : L8} (hd : ∀ j, j < l.length → isD (l.getD j 0)) {y : Nat} (hy : y ≤ l.length) : pv (l.take y) ≤ pv l := by
 have h := Z5q l y hy (l.length - y) ZO
 have e : y + (l.length - y) = l.length := by omega
 rw [e, List.take_length] at h
 have hb := Z50 _ ((l.drop y).take (l.length - y)) rfl (Z5w (Z5c (Z5g hd y) _))
 have hb1 := Z50 _ (l.take y) rfl (Z5w (Z5c hd y))
 have hp := Ma.pow_mono (show (1 : Int) ≤ 10 by omega) (Nat.zero_le (l.length - y))
 rw [Int.pow_zero] at hp
 have hm : pv (l.take y) * 1 ≤ pv (l.take y) * 10 ^ (l.length - y) := Int.mul_le_mul_of_nonneg_left hp hb1.1
 omega
theorem pv_long {l : L8} (hd : ∀ j, j < l.length → isD (l.getD j 0)) {z : Nat} (hz : z < l.length) (h0 : ¬ l.getD z 0 = 48) (h20 : 20 < l.length - z) : 18446744073709551615 < pv l := by
 have h1 : pv (l.take (z + 21)) ≤ pv l := pv_mono_take hd ZO
 have hs := Z5q l z ZO 21 ZO
 have hs2 := Z5q ((l.drop z).take 21) 1 (by rw [List.length_take, List.length_drop]; omega) 20 (by rw [List.length_take, List.length_drop]; omega)
 have e21 : ((l.drop z).take 21).take (1 + 20) = (l.drop z).take 21 := List.take_of_length_le (by rw [List.length_take]; omega)
 rw [e21] at hs2
 have hd1 : ∀ j, j < ((l.drop z).take 21).length → isD (((l.drop z).take 21).getD j 0) := Z5c (Z5g hd z) 21
 have hb := Z50 _ (l.take z) rfl (Z5w (Z5c hd z))
 have hb2 := Z50 _ ((((l.drop z).take 21).drop 1).take 20) rfl (Z5w (Z5c (Z5g hd1 1) 20))
 have ht1 : pv (((l.drop z).take 21).take 1) = (((l.drop z).getD 0 0).toNat : Int) - 48 := by
  rw [List.take_take, show min 1 21 = 1 from rfl, take1 (by rw [List.length_drop]; omega)]
 have hg : (l.drop z).getD 0 0 = l.getD z 0 := by simp [List.getD, List.getElem?_drop]
 have hdz := hd z hz
 unfold isD at hdz
 have hne : ¬ ((l.getD z 0).toNat : Int) = 48 := fun h => h0 (Z5U.1 h)
 have e20 : (10 : Int) ^ 20 = 100000000000000000000 := by decide
 have e21p : (10 : Int) ^ 21 = 1000000000000000000000 := by decide
 rw [ht1, hg, e20] at hs2
 rw [e21p] at hs
 omega
theorem valueW (v : Value) (l : L8) (hd : ∀ j, j < l.length → isD (l.getD j 0)) (h1 : 1 ≤ l.length) (hL : l.length ≤ 1099511627776) (w : World) (hv : IB w v l) :
  Z0f P 212 [v] w fun r w' => ∃ x e : Int, r = .tuple #[.int .u64 x, .int .i64 e] ∧ u64I x ∧ i64I e ∧ ((e = 0 ∧ x = pv l) ∨ (¬ e = 0 ∧ 18446744073709551615 < pv l)) ∧ w = w' := by
 refine Z0o func212 rfl ntmps212 rfl ?_
 have hrun : run (l.drop 0) = l.length := by rw [List.drop_zero]; exact run_is l l.length hd (Nat.le_refl _) (fun h => absurd h ZO)
 refine Z03 (Z00 (Zg (Zg (Z01 (Z02 ?_)))))
 refine Zk [0] ?_
 refine Z03 (Z03 (Z00 (Zm ?_)))
 refine Z4W rfl rfl underlying25 rfl (by first | exact hv | exact hvb | assumption) ?_
 refine Ze ?_
 refine Zm ?_
 apply l_or 5 [0] rfl rfl (.cons rfl (.cons rfl .nil)) rfl rfl (fun _ => rfl) rfl rfl rfl
 ·intro hg1_4
  refine Zm ?_
  refine Zp func147 (Z5u v l ZO 0 ZO w hv) ?_
  refine Zm ?_
  refine Z4W rfl rfl underlying25 rfl (by first | exact hv | exact hvb | assumption) ?_
  refine Zl ?_
  refine Z01 ?_
  exact Z0O rfl (.cons rfl (ZF hg1_4) (.cons rfl rfl .nil))
 refine Z01 (Z02 ?_)
 refine Zk [0, 17] ?_
 (first | refine Z0c rfl ?_ ?_ | refine Z08 rfl ?_ ?_) <;> intro hc0
 ·omega
 refine Z0a (Z02 ?_)
 refine Zk [0] ?_
 refine Z03 (Z0d ?_)
 refine Z0z (ι := Value × Nat) (fun (z0 : Value × Nat) => match z0 with | ⟨vb, z⟩ => l.length - z) (fun (z0 : Value × Nat) (w' : World) => match z0 with | ⟨vb, z⟩ => w = w' ∧ IV w vb (bys (l.drop z)) ∧ z ≤ l.length ∧ ∀ j, j < z → l.getD j 0 = 48) (fun (z0 : Value × Nat) => match z0 with | ⟨vb, z⟩ => [(0, vb)]) [] (v, 0) ?_ .nil ?_ ?_
 ·exact ⟨rfl, hv, ZO, fun j hj => by omega⟩
 ·exact (.cons rfl ZN .nil)
 rintro ⟨vb, z⟩ _ ⟨rfl, hvb, hz, hzs⟩
 show RunC P _ _ _ (_ :: _) _
 have hlz : (l.drop z).length = l.length - z := List.length_drop
 refine Z03 (Z03 (Z00 (Zm ?_)))
 refine Z4W rfl rfl underlying25 rfl (by first | exact hv | exact hvb | assumption) ?_
 refine Zw ?_
 refine Zm ?_
 apply Z47 4 [0] rfl rfl (.cons rfl (.cons rfl .nil)) rfl rfl (fun _ => rfl) rfl rfl rfl
 ·intro hg3_4
  refine Zm ?_
  refine Z4Z (j := 0) rfl rfl rfl rfl underlying25 tz5 underlying5 rfl rfl (by first | exact hv | exact hvb | assumption) rfl ZO ZI (fun hb3_5 => ?_)
  refine Ze ?_
  refine Z01 ?_
  exact Z0O rfl (.cons rfl (ZT hg3_4) (.cons rfl rfl .nil))
 refine Z01 (Z02 ?_)
 refine Zk [0, 26] ?_
 (first | refine Z0c rfl ?_ ?_ | refine Z08 rfl ?_ ?_) <;> intro hc1
 ·refine Z0a (Z02 ?_)
  refine Zk [0] ?_
  refine Z0d (Z00 (Zm ?_))
  refine Z5B (l := 1) (h := (l.drop z).length) rfl rfl underlying25 tz5 rfl rfl rfl rfl hvb ZD ZD (.inl rfl) (by simp) ZO ZI (fun v4_1 h4_1 ho4_1 => ?_)
  rw [Z59, List.take_length, List.drop_drop] at h4_1
  refine Zg (Z01 ?_)
  refine Z0F ?_
  refine Z0p (i := (vb, z)) (v4_1, z + 1) ?_ ?_ .nil ?_
  ·first | omega | (simp; omega)
  ·refine ⟨rfl, h4_1, ZO, fun j hj => ?_⟩
   rcases Nat.lt_or_ge j z with h | h
   ·exact hzs j h
   obtain rfl : j = z := by omega
   have := hc1.2
   rw [Z4Y] at this
   exact Z5U.1 this
  exact (.cons rfl ZN .nil)
 refine Z0H ?_
 refine Z06 ?_
 refine Z06 ?_
 refine Z0h ?_
 refine Z02 ?_
 refine Zk [0] ?_
 refine Z03 (Z03 (Z00 (Zm ?_)))
 refine Z4W rfl rfl underlying25 rfl (by first | exact hv | exact hvb | assumption) ?_
 refine Zw ?_
 refine Z01 (Z02 ?_)
 refine Zk [0, 31] ?_
 (first | refine Z0c rfl ?_ ?_ | refine Z08 rfl ?_ ?_) <;> intro hc2
 ·refine Z03 (Z00 (Zg (Zg (Z01 (Z02 ?_)))))
  refine Zk [2, 3] ?_
  refine Z0i ?_
  refine Z07 ?_
  refine Z0P results212 rfl rfl ?_
  refine ⟨_, rfl, ?_⟩
  have hzl : z < l.length := by simp only [List.length_drop] at hc2; omega
  refine ⟨_, _, rfl, ZO, ZO, .inr ⟨by decide, pv_long hd hzl ?_ (by simp only [List.length_drop] at hc2; omega)⟩, rfl⟩
  intro h
  refine hc1 ⟨by simp only [List.length_drop] at hc2; omega, ?_⟩
  rw [Z4Y, Nat.add_zero, h]
  rfl
 refine Z0a (Z02 ?_)
 refine Zk [0] ?_
 refine Z03 (Z00 (Zg (Z01 (Z02 (Z03 (Z0d ?_))))))
 refine Z0z (ι := Value × Nat × Int) (fun (z0 : Value × Nat × Int) => match z0 with | ⟨vb, y, x⟩ => l.length - y) (fun (z0 : Value × Nat × Int) (w' : World) => match z0 with | ⟨vb, y, x⟩ => w = w' ∧ IV w vb (bys (l.drop y)) ∧ y ≤ l.length ∧ x = pv (l.take y) ∧ u64I x) (fun (z0 : Value × Nat × Int) => match z0 with | ⟨vb, y, x⟩ => [(0, vb), (4, .int .u64 x)]) [] (vb, z, 0) ?_ .nil ?_ ?_
 ·exact ⟨rfl, hvb, ZO, (Z6b _ (fun j hj => by rw [List.length_take] at hj; have := hzs j ZO; simpa [List.getD, List.getElem?_take, show j < z by omega] using this)).symm, ZO⟩
 ·exact (.cons rfl ZN (.cons rfl ZN .nil))
 rintro ⟨vb, y, x⟩ _ ⟨rfl, hvb, hy, hx, hxu⟩
 show RunC P _ _ _ (_ :: _) _
 have hly : (l.drop y).length = l.length - y := List.length_drop
 refine Z03 (Z03 (Z00 (Zm ?_)))
 refine Z4W rfl rfl underlying25 rfl (by first | exact hv | exact hvb | assumption) ?_
 refine Zw ?_
 refine Z01 (Z02 ?_)
 refine Zk [0, 4, 34] ?_
 (first | refine Z0c rfl ?_ ?_ | refine Z08 rfl ?_ ?_) <;> intro hc3
 ·refine Z0a (Z02 ?_)
  refine Zk [0, 4] ?_
  refine Z0d (Z03 (Z03 (Z00 (Zm ?_))))
  refine Zp func255 (eightD vb (l.drop y) (Z5g hd y) (by rw [List.length_drop]; omega) w hvb) ?_
  refine Zm ?_
  refine Zx (Zx (Zg (Zg (Z01 (Z02 ?_)))))
  refine Zk [0, 4, 5, 6] ?_
  refine Z03 (Z00 (Zm (Zm ?_)))
  apply Z47 2 [0, 4, 5] rfl rfl (.cons rfl (.cons rfl (.cons rfl (.cons rfl .nil)))) rfl rfl (fun _ => rfl) rfl rfl rfl
  ·intro hg10_2
   refine Zm ?_
   refine Zl ?_
   refine Z01 ?_
   exact Z0O rfl (.cons rfl (ZT hg10_2) (.cons rfl rfl (.cons rfl rfl (.cons rfl rfl .nil))))
  refine Z01 (Z02 ?_)
  refine Zk [0, 4, 5, 44] ?_
  (first | refine Z0c rfl ?_ ?_ | refine Z08 rfl ?_ ?_) <;> intro hc4
  ·refine Z03 (Z00 ?_)
   have hif : (if (l.drop y).length < 8 then (0 : Int) else pv ((l.drop y).take 8)) = pv ((l.drop y).take 8) := if_neg ZO
   refine Z0j (s := 5) (v' := .int .u64 (pv ((l.drop y).take 8))) rfl (by rw [hif]; rfl) ?_
   have hp8 := Z50 8 ((l.drop y).take 8) (by rw [List.length_take]; omega) (Z5w (Z5c (Z5g hd y) 8))
   have e8 : (10 : Int) ^ 8 = 100000000 := by decide
   rw [e8] at hp8
   refine Zm ?_
   refine Z20 rfl rfl rfl rfl (Z1p ZO) ?_
   refine Zm ?_
   refine Z0y rfl rfl rfl rfl (Z1p ZO) ?_
   refine Zg (Z01 (Z02 ?_))
   refine Zk [0, 4] ?_
   refine Z03 (Z00 (Zm ?_))
   refine Z5B (l := 8) (h := (l.drop y).length) rfl rfl underlying25 tz5 rfl rfl rfl rfl hvb ZD ZD (.inl rfl) (by simp) ZO ZI (fun v12_1 h12_1 ho12_1 => ?_)
   rw [Z59, List.take_length, List.drop_drop] at h12_1
   refine Zg (Z01 (Z02 ?_))
   refine Zk [0, 4] ?_
   refine Z0H ?_
   refine Z06 ?_
   refine Z0h ?_
   refine Z0p (i := (vb, y, x)) (v12_1, y + 8, x * 100000000 + pv ((l.drop y).take 8)) ?_ ?_ .nil ?_
   ·first | omega | (simp; omega)
   ·refine ⟨rfl, h12_1, ZO, ?_, ZO⟩
    rw [Z5q l y hy 8 ZO, hx]
    rfl
   exact (.cons rfl ZN (.cons rfl ZN .nil))
  refine Z0a (Z02 ?_)
  refine Zk [0, 4] ?_
  refine Z03 (Z00 ?_)
  have hdy := Z5g hd y 0 ZO
  unfold isD at hdy
  refine Zm ?_
  refine Z4Z (j := 0) rfl rfl rfl rfl underlying25 tz5 underlying5 rfl rfl (by first | exact hv | exact hvb | assumption) rfl ZO ZI (fun hb13_1 => ?_)
  refine Z0W rfl rfl rfl rfl (w_u8 ZO) ?_
  refine Z5a rfl rfl underlying5 underlying24 rfl (Z1p ZO) ?_
  refine Zg (Z01 (Z02 ?_))
  refine Zk [0, 4, 7] ?_
  refine Z03 (Z03 (Z00 (Zm (Zm ?_))))
  refine Z0W rfl rfl rfl rfl (Z1p ZO) ?_
  refine Z2D rfl rfl rfl rfl ZO (Z78 ZO) ?_
  refine Zw ?_
  refine Z01 (Z02 ?_)
  refine Zk [0, 4, 7, 60] ?_
  (first | refine Z0c rfl ?_ ?_ | refine Z08 rfl ?_ ?_) <;> intro hc5
  ·refine Z03 (Z00 (Zg (Zg (Z01 (Z02 ?_)))))
   refine Zk [2, 3] ?_
   refine Z0i ?_
   refine Z07 ?_
   refine Z0k ?_
   refine Z07 ?_
   refine Z0k ?_
   refine Z07 ?_
   refine Z0P results212 rfl rfl ?_
   refine ⟨_, rfl, ?_⟩
   have hs := Z5q l y hy 1 ZO
   rw [← hx, take1 ZO] at hs
   have hm := pv_mono_take hd (y := y + 1) ZO
   refine ⟨_, _, rfl, ZO, ZO, .inr ⟨by decide, ?_⟩, rfl⟩
   omega
  refine Z0a (Z02 ?_)
  refine Zk [0, 4, 7] ?_
  refine Z03 (Z00 (Zm ?_))
  refine Z20 rfl rfl rfl rfl (Z1p ZO) ?_
  refine Zm ?_
  refine Z0y rfl rfl rfl rfl (Z1p ZO) ?_
  refine Zg (Z01 (Z02 ?_))
  refine Zk [0, 4] ?_
  refine Z00 (Zm ?_)
  refine Z5B (l := 1) (h := (l.drop y).length) rfl rfl underlying25 tz5 rfl rfl rfl rfl hvb ZD ZD (.inl rfl) (by simp) ZO ZI (fun v17_1 h17_1 ho17_1 => ?_)
  rw [Z59, List.take_length, List.drop_drop] at h17_1
  refine Zg (Z01 ?_)
  refine Z0F ?_
  refine Z0p (i := (vb, y, x)) (v17_1, y + 1, 10 * x + (((l.drop y).getD 0 0).toNat - 48)) ?_ ?_ .nil ?_
  ·first | omega | (simp; omega)
  ·refine ⟨rfl, h17_1, ZO, ?_, ZO⟩
   rw [Z5q l y hy 1 ZO, ← hx, take1 ZO]
   show _ = x * 10 + (((l.drop y).getD 0 0).toNat - 48 : Int)
   omega
  exact (.cons rfl ZN (.cons rfl ZN .nil))
 refine Z0H ?_
 refine Z06 ?_
 refine Z06 ?_
 refine Z0h ?_
 refine Z02 ?_
 refine Zk [4] ?_
 refine Z03 (Z00 (Zm (Zg (Zg (Z01 (Z02 ?_))))))
 refine Zk [2, 3] ?_
 refine Z0i ?_
 refine Z0P results212 rfl rfl ?_
 refine ⟨_, rfl, ?_⟩
 obtain rfl : y = l.length := by omega
 rw [List.take_length] at hx
 exact ⟨_, _, rfl, hxu, ZO, .inl ⟨rfl, hx⟩, rfl⟩
theorem Z6R {w0 w : World} {σ : List As} {b : Nat} {E : TypeId} {cs : List Value} (hw : St w0 w0.heap.size Z0J σ w) (h : (As.blk b E cs).ok w0) : (As.blk b E cs).ok w :=
 (hw.ext.block b (Array.getElem?_eq_some_iff.1 (show w0.heap[b]? = some _ from h)).1 (fun e => e)).trans h
theorem Z6W {w : World} {v : Value} {t : L8} (h : IB w v t) : ∃ A c, v = .slice A t.length c ∧ t.length ≤ c := by
 obtain ⟨A, c, e, hc, _⟩ := h
 rw [List.length_map] at e hc
 exact ⟨A, c, e, hc⟩
theorem ib_cut {w : World} {A : Option Addr} {c l h : Nat} {t : L8} (hv : IB w (.slice A t.length c) t) (h1 : l ≤ h) (h2 : h ≤ t.length) (h3 : t.length ≤ c) : IB w (.slice (cutA A l c 1) (h - l) (c - l)) ((t.take h).drop l) := by
 obtain ⟨A', c', e, hc, hs⟩ := hv
 injection e with e1 e2 e3
 subst e1 e3
 have := IV.cut (c := c) (l := l) (k := h) (m := c) hs h1 (by simpa [bys] using h2) ZO
 rw [show ((bys t).take h).drop l = bys ((t.take h).drop l) from by simp [bys]] at this
 exact this
theorem cut_is {t : L8} {a n : Nat} : (t.take (a + n)).drop a = (t.drop a).take n := by
 rw [List.drop_take]
 congr 1
 omega
theorem isR (b : Nat) (v : Value) (t : L8) (hL : t.length ≤ 1099511627776) (at_ : Nat) (a c : Int) (w : World) (hb : (As.blk b 239 [v, .int .i64 (at_ : Int)]).ok w) (hv : IB w v t) :
  Z0f P 210 [.pointer (some ⟨b, 0, none⟩), .int .u8 a, .int .u8 c] w fun r w' => r = .bool (decide (at_ < t.length ∧ (((t.getD at_ 0).toNat : Int) = a ∨ ((t.getD at_ 0).toNat : Int) = c))) ∧ Grow w w' [] := by
 refine Z0o func210 rfl ntmps210 rfl ?_
 have H0 := St.start w
 refine Z03 (Z00 (Zg (Z01 (Z02 ?_))))
 refine Zk [0, 1, 2] ?_
 refine Z03 ?_
 refine Z2F ZK ZK ?_
 have H1 := H0.drewn
 refine Zm (Z0b rfl rfl rfl (Z09 Z56 rfl rfl rfl ?_))
 refine Z05 (Z0r (Z6R H1 hb)) mem0 rfl rfl underlying3 rfl rfl rfl ?_
 refine Zm (Z0b rfl rfl rfl (Z09 Z5O rfl rfl rfl ?_))
 refine Z05 (Z0r (Z6R H1 hb)) mem0 rfl rfl underlying25 rfl rfl rfl ?_
 refine Z4W rfl rfl underlying25 rfl (by first | exact H1.iarg hv | assumption) ?_
 refine Zl ?_
 refine Zm ?_
 apply Z47 (q := ((t.getD at_ 0).toNat : Int) = a ∨ ((t.getD at_ 0).toNat : Int) = c) 26 [] rfl rfl (.cons rfl .nil) rfl rfl (fun _ => rfl) rfl rfl rfl
 ·intro hg1_11
  refine Zm (Z0b rfl rfl rfl (Z09 Z5O rfl rfl rfl ?_))
  refine Z05 (Z0r (Z6R H1 hb)) mem0 rfl rfl underlying25 rfl rfl rfl ?_
  refine Zm (Z0b rfl rfl rfl (Z09 Z56 rfl rfl rfl ?_))
  refine Z05 (Z0r (Z6R H1 hb)) mem0 rfl rfl underlying3 rfl rfl rfl ?_
  refine Z4Z (j := at_) rfl rfl rfl rfl underlying25 tz5 underlying5 rfl rfl (by first | exact H1.iarg hv | assumption) rfl ZO ZI (fun hb1_19 => ?_)
  refine Zm ?_
  refine Ze ?_
  refine Zm ?_
  apply l_or (q := ((t.getD at_ 0).toNat : Int) = c) 12 [17] rfl rfl (.cons rfl (.cons rfl .nil)) rfl rfl (fun _ => rfl) rfl rfl rfl
  ·intro hg1_24
   refine Zm (Z0b rfl rfl rfl (Z09 Z5O rfl rfl rfl ?_))
   refine Z05 (Z0r (Z6R H1 hb)) mem0 rfl rfl underlying25 rfl rfl rfl ?_
   refine Zm (Z0b rfl rfl rfl (Z09 Z56 rfl rfl rfl ?_))
   refine Z05 (Z0r (Z6R H1 hb)) mem0 rfl rfl underlying3 rfl rfl rfl ?_
   refine Z4Z (j := at_) rfl rfl rfl rfl underlying25 tz5 underlying5 rfl rfl (by first | exact H1.iarg hv | assumption) rfl ZO ZI (fun hb1_32 => ?_)
   refine Zm ?_
   refine Ze ?_
   refine Z01 ?_
   exact Z0O rfl (.cons rfl (ZF hg1_24) (.cons rfl rfl .nil))
   all_goals infer_instance
  refine Z01 ?_
  exact Z0O rfl (.cons rfl (ZT hg1_11) .nil)
  all_goals infer_instance
 refine Zg (Z01 (Z02 ?_))
 refine Zk [6] ?_
 refine Z0i ?_
 refine Z0e results210 rfl ?_
 refine ⟨_, rfl, ?_⟩
 exact ⟨congrArg Value.bool (decide_eq_decide.2 ZO), H1.grows⟩
theorem digitsS (b : Nat) (v : Value) (t : L8) (hL : t.length ≤ 1099511627776) (at_ : Nat) (hat : at_ ≤ t.length) (w : World) (hS : Sep w.heap.size (fps [As.blk b 239 [v, .int .i64 (at_ : Int)]]) w [As.blk b 239 [v, .int .i64 (at_ : Int)]]) (hv : ∀ w1 : World, (∀ k, k < w.heap.size → ¬ fps [As.blk b 239 [v, .int .i64 (at_ : Int)]] k → w1.heap[k]? = w.heap[k]?) → IB w1 v t) :
  Z0f P 211 [.pointer (some ⟨b, 0, none⟩)] w fun r w' => ∃ vo, r = vo ∧ (∀ w1 : World, IB w1 v t → IB w1 vo ((t.drop at_).take (run (t.drop at_)))) ∧ Z1C w w' [As.blk b 239 [v, .int .i64 (at_ : Int)]] [As.blk b 239 [v, .int .i64 ((at_ + run (t.drop at_) : Nat) : Int)]] := by
 refine Z0o func211 rfl ntmps211 rfl ?_
 have H0 : St w w.heap.size (fps [As.blk b 239 [v, .int .i64 (at_ : Int)]]) [As.blk b 239 [v, .int .i64 (at_ : Int)]] w := St.startS hS
 have hrl := Z4X t at_ hat
 refine Z03 (Z00 (Zg (Z01 (Z02 ?_))))
 refine Zk [0] ?_
 refine Z03 (Z00 (Zm (Z0b rfl rfl rfl (Z09 Z56 rfl rfl rfl ?_))))
 refine Z05 (Z0r (H0.ok mem0)) mem0 rfl rfl underlying3 rfl rfl rfl ?_
 refine Zg (Z01 (Z02 ?_))
 refine Zk [0, 3] ?_
 refine Z03 ?_
 have H1 := H0.drewn
 refine Z1a (n := 17) [Zz,Zz,Zz,Zz,Zz,Zz,Zz,Zz,Zz,Zz,Zz,Zz,Zz,Zz,Zz,Zz,Zz] (fun wS => ∃ x : Int, (As.blk b 239 [v, .int .i64 x]).ok wS) ZK rfl rfl ?_
 apply Zu (L' := [Zy,Zz,Zz,Zz,Zz,Zz,Zz,Zz,Zz,Zz,Zz,Zz,Zz,Zz,Zz,Zz,Zz]) 0 (⟨_, H1.ok mem0⟩)
 ·intro wS sS
  refine Zm (Z01 ?_)
  exact Z04 rfl
 refine Z0N (L' := [Zy,Zy,Zz,Zz,Zz,Zz,Zz,Zz,Zz,Zz,Zz,Zz,Zz,Zz,Zz,Zz,Zz]) 1 rfl ZK ZK ZK rfl rfl rfl (⟨_, H1.ok mem0⟩) rfl ?_
 apply Zu (L' := [Zy,Zy,Zy,Zz,Zz,Zz,Zz,Zz,Zz,Zz,Zz,Zz,Zz,Zz,Zz,Zz,Zz]) 2 (⟨_, H1.ok mem0⟩)
 ·intro wS sS
  refine Z09 Z56 rfl rfl rfl (Z01 ?_)
  exact Z04 rfl
 apply Zu (L' := [Zy,Zy,Zy,Zz,Zy,Zz,Zz,Zz,Zz,Zz,Zz,Zz,Zz,Zz,Zz,Zz,Zz]) 4 (⟨_, H1.ok mem0⟩)
 ·intro wS sS
  refine Zm (Z01 ?_)
  exact Z04 rfl
 refine Z0N (L' := [Zy,Zy,Zy,Zz,Zy,Zy,Zz,Zz,Zz,Zz,Zz,Zz,Zz,Zz,Zz,Zz,Zz]) 5 rfl ZK ZK ZK rfl rfl rfl (⟨_, H1.ok mem0⟩) rfl ?_
 apply Zu (L' := [Zy,Zy,Zy,Zz,Zy,Zy,Zy,Zz,Zz,Zz,Zz,Zz,Zz,Zz,Zz,Zz,Zz]) 6 (⟨_, H1.ok mem0⟩)
 ·intro wS sS
  refine Z09 Z5O rfl rfl rfl (Z01 ?_)
  exact Z04 rfl
 apply Zu (L' := [Zy,Zy,Zy,Zz,Zy,Zy,Zy,Zy,Zz,Zz,Zz,Zz,Zz,Zz,Zz,Zz,Zz]) 7 (⟨_, H1.ok mem0⟩)
 ·intro wS sS
  obtain ⟨x0, hx0⟩ := sS
  refine Z05 (Z0r hx0) mem0 rfl rfl underlying25 rfl rfl rfl ?_
  refine Z01 ?_
  exact Z04 rfl
 apply Zu (L' := [Zy,Zy,Zy,Zz,Zy,Zy,Zy,Zy,Zy,Zz,Zz,Zz,Zz,Zz,Zz,Zz,Zz]) 8 (⟨_, H1.ok mem0⟩)
 ·intro wS sS
  refine Zm (Z01 ?_)
  exact Z04 rfl
 refine Z0N (L' := [Zy,Zy,Zy,Zz,Zy,Zy,Zy,Zy,Zy,Zy,Zz,Zz,Zz,Zz,Zz,Zz,Zz]) 9 rfl ZK ZK ZK rfl rfl rfl (⟨_, H1.ok mem0⟩) rfl ?_
 apply Zu (L' := [Zy,Zy,Zy,Zz,Zy,Zy,Zy,Zy,Zy,Zy,Zy,Zz,Zz,Zz,Zz,Zz,Zz]) 10 (⟨_, H1.ok mem0⟩)
 ·intro wS sS
  refine Z09 Z56 rfl rfl rfl (Z01 ?_)
  exact Z04 rfl
 refine Z2B (L' := [Zy,Zy,Zy,Zy,Zy,Zy,Zy,Zy,Zy,Zy,Zy,Zz,Zz,Zz,Zz,Zz,Zz]) (L'' := [Zy,Zy,Zy,Zz,Zy,Zy,Zy,Zy,Zy,Zy,Zy,Zy,Zz,Zz,Zz,Zz,Zz]) 3 11 ZK rfl rfl rfl rfl ?_ ?_
 ·refine Z05 (Z0r (H1.ok mem0)) mem0 rfl rfl underlying3 rfl rfl rfl ?_
  refine Z01 ?_
  refine Z0n (⟨_, H1.ok mem0⟩) ?_
  refine Z0v (L' := [Zy,Zy,Zy,Zy,Zy,Zy,Zy,Zy,Zy,Zy,Zy,Zy,Zz,Zz,Zz,Zz,Zz]) 11 ZK rfl rfl ?_
  refine Z05 (Z0r (H1.ok mem0)) mem0 rfl rfl underlying3 rfl rfl rfl ?_
  refine Z01 ?_
  refine Z0n (⟨_, H1.ok mem0⟩) ?_
  refine Z0v (L' := [Zy,Zy,Zy,Zy,Zy,Zy,Zy,Zy,Zy,Zy,Zy,Zy,Zy,Zz,Zz,Zz,Zz]) 12 ZK rfl rfl ?_
  refine Z13 rfl rfl func147 rfl rfl (.cons rfl (.cons rfl .nil)) (Z5u v t ZO at_ hat _ (H1.ikM hv)) ?_
  refine Z01 ?_
  refine Z0n (⟨_, H1.ok mem0⟩) ?_
  apply Zu (L' := [Zy,Zy,Zy,Zy,Zy,Zy,Zy,Zy,Zy,Zy,Zy,Zy,Zy,Zy,Zz,Zz,Zz]) 13 (⟨_, H1.ok mem0⟩)
  ·intro wS sS
   refine Z0y rfl rfl rfl rfl (Z0l ZO) ?_
   refine Z01 ?_
   exact Z04 rfl
  refine Z0N (L' := [Zy,Zy,Zy,Zy,Zy,Zy,Zy,Zy,Zy,Zy,Zy,Zy,Zy,Zy,Zy,Zz,Zz]) 14 rfl ZK ZK ZK rfl rfl rfl (⟨_, H1.ok mem0⟩) rfl ?_
  apply Zu (L' := [Zy,Zy,Zy,Zy,Zy,Zy,Zy,Zy,Zy,Zy,Zy,Zy,Zy,Zy,Zy,Zy,Zz]) 15 (⟨_, H1.ok mem0⟩)
  ·intro wS sS
   refine Z09 Z56 rfl rfl rfl (Z01 ?_)
   exact Z04 rfl
  refine Z0v (L' := [Zy,Zy,Zy,Zy,Zy,Zy,Zy,Zy,Zy,Zy,Zy,Zy,Zy,Zy,Zy,Zy,Zy]) 16 ZK rfl rfl ?_
  refine Z0s H1 .head (show Z1F [v, .int .i64 (at_ : Int)] 1 (.int .i64 ((at_ : Int) + (run (t.drop at_) : Int))) [v, .int .i64 ((at_ : Int) + (run (t.drop at_) : Int))] from .succ .zero) rfl tz3 rfl rfl rfl (fun w2 H2 => ?_)
  refine Z01 ?_
  refine Z0n (⟨_, H2.ok mem0⟩) ?_
  refine Z0B ZK ?_
  refine Z02 ?_
  refine Zk [0, 3] ?_
  refine Z03 ?_
  refine Z2F ZK ZK ?_
  have H3 := H2.drewn
  refine Zm (Z0b rfl rfl rfl (Z09 Z5O rfl rfl rfl ?_))
  refine Z05 (Z0r (H3.ok mem0)) mem0 rfl rfl underlying25 rfl rfl rfl ?_
  refine Zm (Zm (Z0b rfl rfl rfl (Z09 Z56 rfl rfl rfl ?_)))
  refine Z05 (Z0r (H3.ok mem0)) mem0 rfl rfl underlying3 rfl rfl rfl ?_
  obtain ⟨A, c, hve, hvc⟩ := Z6W (H3.ikM hv)
  refine Z2d (size := 1) (l := at_) (h := at_ + run (t.drop at_)) (mm := c) rfl rfl underlying25 tz5 (by show some v = _; rw [hve]) rfl rfl rfl rfl rfl rfl (by simp) ZO ZO (Nat.le_refl _) ?_
  refine Zg (Z01 (Z02 ?_))
  refine Zk [2] ?_
  refine Z0i ?_
  refine Z0e results211 rfl ?_
  refine ⟨_, rfl, ?_⟩
  refine ⟨_, rfl, fun w1 h1 => ?_, H3.transS⟩
  rw [hve] at h1
  have h2 := ib_cut (l := at_) (h := at_ + run (t.drop at_)) h1 ZO ZO hvc
  rw [cut_is] at h2
  exact h2
 refine Z05 (Z0r (H1.ok mem0)) mem0 rfl rfl underlying3 rfl rfl rfl ?_
 refine Z01 ?_
 refine Z0n (⟨_, H1.ok mem0⟩) ?_
 refine Z2B (L' := [Zy,Zy,Zy,Zy,Zy,Zy,Zy,Zy,Zy,Zy,Zy,Zy,Zz,Zz,Zz,Zz,Zz]) (L'' := [Zy,Zy,Zy,Zz,Zy,Zy,Zy,Zy,Zy,Zy,Zy,Zy,Zy,Zz,Zz,Zz,Zz]) 3 12 ZK rfl rfl rfl rfl ?_ ?_
 ·refine Z05 (Z0r (H1.ok mem0)) mem0 rfl rfl underlying3 rfl rfl rfl ?_
  refine Z01 ?_
  refine Z0n (⟨_, H1.ok mem0⟩) ?_
  refine Z0v (L' := [Zy,Zy,Zy,Zy,Zy,Zy,Zy,Zy,Zy,Zy,Zy,Zy,Zy,Zz,Zz,Zz,Zz]) 12 ZK rfl rfl ?_
  refine Z13 rfl rfl func147 rfl rfl (.cons rfl (.cons rfl .nil)) (Z5u v t ZO at_ hat _ (H1.ikM hv)) ?_
  refine Z01 ?_
  refine Z0n (⟨_, H1.ok mem0⟩) ?_
  apply Zu (L' := [Zy,Zy,Zy,Zy,Zy,Zy,Zy,Zy,Zy,Zy,Zy,Zy,Zy,Zy,Zz,Zz,Zz]) 13 (⟨_, H1.ok mem0⟩)
  ·intro wS sS
   refine Z0y rfl rfl rfl rfl (Z0l ZO) ?_
   refine Z01 ?_
   exact Z04 rfl
  refine Z0N (L' := [Zy,Zy,Zy,Zy,Zy,Zy,Zy,Zy,Zy,Zy,Zy,Zy,Zy,Zy,Zy,Zz,Zz]) 14 rfl ZK ZK ZK rfl rfl rfl (⟨_, H1.ok mem0⟩) rfl ?_
  apply Zu (L' := [Zy,Zy,Zy,Zy,Zy,Zy,Zy,Zy,Zy,Zy,Zy,Zy,Zy,Zy,Zy,Zy,Zz]) 15 (⟨_, H1.ok mem0⟩)
  ·intro wS sS
   refine Z09 Z56 rfl rfl rfl (Z01 ?_)
   exact Z04 rfl
  refine Z0v (L' := [Zy,Zy,Zy,Zy,Zy,Zy,Zy,Zy,Zy,Zy,Zy,Zy,Zy,Zy,Zy,Zy,Zy]) 16 ZK rfl rfl ?_
  refine Z0s H1 .head (show Z1F [v, .int .i64 (at_ : Int)] 1 (.int .i64 ((at_ : Int) + (run (t.drop at_) : Int))) [v, .int .i64 ((at_ : Int) + (run (t.drop at_) : Int))] from .succ .zero) rfl tz3 rfl rfl rfl (fun w4 H4 => ?_)
  refine Z01 ?_
  refine Z0n (⟨_, H4.ok mem0⟩) ?_
  refine Z0B ZK ?_
  refine Z02 ?_
  refine Zk [0, 3] ?_
  refine Z03 ?_
  refine Z2F ZK ZK ?_
  have H5 := H4.drewn
  refine Zm (Z0b rfl rfl rfl (Z09 Z5O rfl rfl rfl ?_))
  refine Z05 (Z0r (H5.ok mem0)) mem0 rfl rfl underlying25 rfl rfl rfl ?_
  refine Zm (Zm (Z0b rfl rfl rfl (Z09 Z56 rfl rfl rfl ?_)))
  refine Z05 (Z0r (H5.ok mem0)) mem0 rfl rfl underlying3 rfl rfl rfl ?_
  obtain ⟨A, c, hve, hvc⟩ := Z6W (H5.ikM hv)
  refine Z2d (size := 1) (l := at_) (h := at_ + run (t.drop at_)) (mm := c) rfl rfl underlying25 tz5 (by show some v = _; rw [hve]) rfl rfl rfl rfl rfl rfl (by simp) ZO ZO (Nat.le_refl _) ?_
  refine Zg (Z01 (Z02 ?_))
  refine Zk [2] ?_
  refine Z0i ?_
  refine Z0e results211 rfl ?_
  refine ⟨_, rfl, ?_⟩
  refine ⟨_, rfl, fun w1 h1 => ?_, H5.transS⟩
  rw [hve] at h1
  have h2 := ib_cut (l := at_) (h := at_ + run (t.drop at_)) h1 ZO ZO hvc
  rw [cut_is] at h2
  exact h2
 refine Z13 rfl rfl func147 rfl rfl (.cons rfl (.cons rfl .nil)) (Z5u v t ZO at_ hat _ (H1.ikM hv)) ?_
 refine Z01 ?_
 refine Z0n (⟨_, H1.ok mem0⟩) ?_
 refine Z0v (L' := [Zy,Zy,Zy,Zy,Zy,Zy,Zy,Zy,Zy,Zy,Zy,Zy,Zy,Zz,Zz,Zz,Zz]) 3 ZK rfl rfl ?_
 refine Z05 (Z0r (H1.ok mem0)) mem0 rfl rfl underlying3 rfl rfl rfl ?_
 refine Z01 ?_
 refine Z0n (⟨_, H1.ok mem0⟩) ?_
 apply Zu (L' := [Zy,Zy,Zy,Zy,Zy,Zy,Zy,Zy,Zy,Zy,Zy,Zy,Zy,Zy,Zz,Zz,Zz]) 13 (⟨_, H1.ok mem0⟩)
 ·intro wS sS
  refine Z0y rfl rfl rfl rfl (Z0l ZO) ?_
  refine Z01 ?_
  exact Z04 rfl
 refine Z0N (L' := [Zy,Zy,Zy,Zy,Zy,Zy,Zy,Zy,Zy,Zy,Zy,Zy,Zy,Zy,Zy,Zz,Zz]) 14 rfl ZK ZK ZK rfl rfl rfl (⟨_, H1.ok mem0⟩) rfl ?_
 apply Zu (L' := [Zy,Zy,Zy,Zy,Zy,Zy,Zy,Zy,Zy,Zy,Zy,Zy,Zy,Zy,Zy,Zy,Zz]) 15 (⟨_, H1.ok mem0⟩)
 ·intro wS sS
  refine Z09 Z56 rfl rfl rfl (Z01 ?_)
  exact Z04 rfl
 refine Z0v (L' := [Zy,Zy,Zy,Zy,Zy,Zy,Zy,Zy,Zy,Zy,Zy,Zy,Zy,Zy,Zy,Zy,Zy]) 16 ZK rfl rfl ?_
 refine Z0s H1 .head (show Z1F [v, .int .i64 (at_ : Int)] 1 (.int .i64 ((at_ : Int) + (run (t.drop at_) : Int))) [v, .int .i64 ((at_ : Int) + (run (t.drop at_) : Int))] from .succ .zero) rfl tz3 rfl rfl rfl (fun w6 H6 => ?_)
 refine Z01 ?_
 refine Z0n (⟨_, H6.ok mem0⟩) ?_
 refine Z0B ZK ?_
 refine Z02 ?_
 refine Zk [0, 3] ?_
 refine Z03 ?_
 refine Z2F ZK ZK ?_
 have H7 := H6.drewn
 refine Zm (Z0b rfl rfl rfl (Z09 Z5O rfl rfl rfl ?_))
 refine Z05 (Z0r (H7.ok mem0)) mem0 rfl rfl underlying25 rfl rfl rfl ?_
 refine Zm (Zm (Z0b rfl rfl rfl (Z09 Z56 rfl rfl rfl ?_)))
 refine Z05 (Z0r (H7.ok mem0)) mem0 rfl rfl underlying3 rfl rfl rfl ?_
 obtain ⟨A, c, hve, hvc⟩ := Z6W (H7.ikM hv)
 refine Z2d (size := 1) (l := at_) (h := at_ + run (t.drop at_)) (mm := c) rfl rfl underlying25 tz5 (by show some v = _; rw [hve]) rfl rfl rfl rfl rfl rfl (by simp) ZO ZO (Nat.le_refl _) ?_
 refine Zg (Z01 (Z02 ?_))
 refine Zk [2] ?_
 refine Z0i ?_
 refine Z0e results211 rfl ?_
 refine ⟨_, rfl, ?_⟩
 refine ⟨_, rfl, fun w1 h1 => ?_, H7.transS⟩
 rw [hve] at h1
 have h2 := ib_cut (l := at_) (h := at_ + run (t.drop at_)) h1 ZO ZO hvc
 rw [cut_is] at h2
 exact h2
abbrev tvS (t : L8) (i : Nat) : Int := ((t.getD i 0).toNat : Int)
def p0S (t : L8) : Nat := if 0 < t.length ∧ (tvS t 0 = 43 ∨ tvS t 0 = 45) then 1 else 0
def n1S (t : L8) : Nat := run (t.drop (p0S t))
def ptS (t : L8) : Nat := p0S t + n1S t
def hasS (t : L8) : Prop := ptS t < t.length ∧ tvS t (ptS t) = 46
instance (t : L8) : Decidable (hasS t) := by unfold hasS; infer_instance
def frS (t : L8) : L8 := if hasS t then (t.drop (ptS t + 1)).take (run (t.drop (ptS t + 1))) else []
def enS (t : L8) : Nat := if hasS t then ptS t + 1 + run (t.drop (ptS t + 1)) else ptS t
def ftS (f : L8) (i : Nat) : L8 := f.take i ++ List.replicate (i - f.length) 48
def Z6w (t : L8) (s : Nat) : L8 := 48 :: ((t.drop (p0S t)).take (n1S t) ++ ftS (frS t) s)
def Z6X (t : L8) (s : Nat) : Prop := ¬ ((n1S t : Int) + ((frS t).length : Int) = 0) ∧ enS t = t.length ∧ (∀ i, s ≤ i → i < (frS t).length → tvS (frS t) i = 48) ∧ pv (Z6w t s) ≤ 999999999999999999
def scV (t : L8) (s : Nat) : Int := if 0 < t.length ∧ tvS t 0 = 45 then IntKind.wrap .u64 (0 - pv (Z6w t s)) else pv (Z6w t s)
theorem p0_le (t : L8) : p0S t ≤ t.length := by unfold p0S; split <;> omega
theorem pt_le (t : L8) : ptS t ≤ t.length := by
 have := Z4X t (p0S t) (p0_le t)
 exact this
theorem en_le (t : L8) : ptS t ≤ enS t ∧ enS t ≤ t.length := by
 have h := pt_le t
 unfold enS
 split
 ·rename_i hp
  have := Z4X t (ptS t + 1) (by unfold hasS at hp; omega)
  omega
 omega
theorem n1_len (t : L8) : ((t.drop (p0S t)).take (n1S t)).length = n1S t := by
 have := Z6y (t.drop (p0S t))
 rw [List.length_take]
 unfold n1S
 omega
theorem fr_len (t : L8) : (frS t).length = if hasS t then run (t.drop (ptS t + 1)) else 0 := by
 unfold frS
 split
 ·have := Z6y (t.drop (ptS t + 1))
  rw [List.length_take]
  omega
 rfl
theorem fr_le (t : L8) : (frS t).length ≤ t.length := by
 have h := en_le t
 rw [fr_len]
 unfold enS at h
 split
 ·rename_i hp
  rw [if_pos hp] at h
  omega
 omega
theorem ft_len (f : L8) (i : Nat) : (ftS f i).length = i := by unfold ftS; simp; omega
theorem ft_snoc (f : L8) (i : Nat) : ftS f (i + 1) = ftS f i ++ [if i < f.length then f.getD i 0 else 48] := by
 unfold ftS
 split
 ·rename_i h
  rw [List.take_add_one, List.getElem?_eq_getElem h, show i + 1 - f.length = 0 by omega, show i - f.length = 0 by omega]
  simp [List.getD, h]
 rename_i h
 rw [List.take_of_length_le ZO, List.take_of_length_le ZO, show i + 1 - f.length = (i - f.length) + 1 by omega, List.replicate_succ', List.append_assoc]
theorem isD_mem_take {l : L8} (n : Nat) (h : n ≤ run l) : ∀ c ∈ l.take n, isD c := fun c hc => by
 obtain ⟨j, hj, rfl⟩ := List.mem_iff_getElem.1 hc
 rw [List.length_take] at hj
 have := Z5n l j ZO
 simpa [List.getD, show j < l.length by omega] using this
theorem fr_dig (t : L8) : ∀ c ∈ frS t, isD c := by
 unfold frS
 split
 ·exact isD_mem_take _ (Nat.le_refl _)
 intro c hc; cases hc
theorem all_dig (t : L8) (s : Nat) : ∀ c ∈ Z6w t s, isD c := fun c hc => by
 unfold Z6w at hc
 rcases List.mem_cons.1 hc with rfl | hc
 ·decide
 rcases List.mem_append.1 hc with hc | hc
 ·exact isD_mem_take _ (Nat.le_refl _) c hc
 unfold ftS at hc
 rcases List.mem_append.1 hc with hc | hc
 ·exact fr_dig t c (List.mem_of_mem_take hc)
 rw [List.eq_of_mem_replicate hc]; decide
theorem digl_at {l : L8} (h : ∀ c ∈ l, isD c) : ∀ j, j < l.length → isD (l.getD j 0) := fun j hj => by
 rw [List.getD_eq_getElem?_getD, List.getElem?_eq_getElem hj]
 exact h _ (List.getElem_mem hj)
theorem all_len (t : L8) (s : Nat) : (Z6w t s).length = 1 + n1S t + s := by
 unfold Z6w
 rw [List.length_cons, List.length_append, n1_len, ft_len]
 omega
theorem n1_bd (t : L8) : n1S t ≤ t.length := by
 have := Z6y (t.drop (p0S t))
 rw [List.length_drop] at this
 unfold n1S
 omega
theorem rbS1 (l : L8) (n : Nat) (f : L8) : [.int .u8 48] ++ bys (l.take n) = bys (48 :: (l.take n ++ ftS f 0)) := by
 have e : ftS f 0 = [] := by simp [ftS]
 rw [e, List.append_nil]
 rfl
theorem rbS2 (w x : L8) (c : UInt8) : bys (48 :: (w ++ x)) ++ [.int .u8 (c.toNat : Int)] = bys (48 :: (w ++ (x ++ [c]))) := by simp [bys]
theorem ib_nil (w : World) : IB w (.slice none 0 0) [] := IV.nil _
section
variable {P : Program} {w0 w w' w1 : World} {B : Nat} {M : Nat → Prop} {σ τ : List As}
theorem Z6f {F : Nat → Prop} {R : World → Prop} (hw : St w0 w0.heap.size F (τ ++ σ) w) (hb : ∀ w1 : World, (∀ k, k < w0.heap.size → ¬ F k → w1.heap[k]? = w0.heap[k]?) → R w1) : ∀ w1 : World, (∀ k, k < w.heap.size → ¬ fps τ k → w1.heap[k]? = w.heap[k]?) → R w1 := fun w1 h1 =>
 hb w1 fun k hk hf => (h1 k (Nat.lt_of_lt_of_le hk hw.ext.size) fun ⟨A, hA, h⟩ => by
  rcases (hw.sep.lt (List.mem_append_left _ hA) k h).1 with h | h
  ·omega
  exact hf h).trans (hw.ext.block k hk hf)
end
theorem readScl (b : Nat) (v : Value) (t : L8) (hL : t.length ≤ 1024) (s : Nat) (hs : s ≤ 18) (w : World) (hS : Sep w.heap.size (fps [As.blk b 239 [v, .int .i64 0]]) w [As.blk b 239 [v, .int .i64 0]]) (hv : ∀ w1 : World, (∀ k, k < w.heap.size → ¬ fps [As.blk b 239 [v, .int .i64 0]] k → w1.heap[k]? = w.heap[k]?) → IB w1 v t) :
  CallsP P 159 [.pointer (some ⟨b, 0, none⟩), .int .i64 (s : Int)] w (fun r w' => ∃ x : Int, r = .int .u64 (scV t s) ∧ Z6X t s ∧ Z1C w w' [As.blk b 239 [v, .int .i64 0]] [As.blk b 239 [v, .int .i64 x]]) (fun r w' => ∃ p e x : Int, r = .iface 235 (.agg #[.int .i64 p, .int .i64 e]) ∧ i64I p ∧ i64I e ∧ ¬ Z6X t s ∧ Z1C w w' [As.blk b 239 [v, .int .i64 0]] [As.blk b 239 [v, .int .i64 x]]) := by
 refine enterP func159 rfl ntmps159 rfl ?_
 have H0 : St w w.heap.size (fps [As.blk b 239 [v, .int .i64 0]]) [As.blk b 239 [v, .int .i64 0]] w := St.startS hS
 have hpe : p0S t + run (t.drop (p0S t)) = ptS t := rfl
 have hne : n1S t = run (t.drop (p0S t)) := rfl
 have hp0 := p0_le t
 have hpt := pt_le t
 have hen := en_le t
 have hfl := fr_le t
 have hn1 := n1_len t
 have hal := all_len t s
 refine Z03 (Z00 (Zg (Z01 (Z02 ?_))))
 refine Zk [0, 1] ?_
 refine Z03 (Z00 (Zm ?_))
 refine Zc func210 (isR b v t ZO 0 45 45 w (H0.ok mem0) (H0.ikM hv)) ?_
 rintro _ w1 ⟨rfl, hG⟩
 have H1 := hG _ _ _ _ H0
 simp only [Zca, Zna] at H1
 refine Zg (Z01 (Z02 ?_))
 refine Zk [0, 1, 5] ?_
 refine Z1q (ι := Nat) (fun (p : Nat) (w' : World) => St w w.heap.size (fps [As.blk b 239 [v, .int .i64 0]]) ([As.blk b 239 [v, .int .i64 (p : Int)]]) w' ∧ p = p0S t) (fun (p : Nat) => []) [0, 1, 5] (.cons rfl (.cons rfl (.cons rfl .nil))) ?_ ?_
 ·refine Z03 (Z00 (Zm ?_))
  refine Zc func210 (isR b v t ZO 0 43 45 w1 (H1.ok mem0) (H1.ikM hv)) ?_
  rintro _ w2 ⟨rfl, hG⟩
  have H2 := hG _ _ _ _ H1
  simp only [Zca, Zna] at H2
  refine Z01 (Z02 ?_)
  refine Zk [0, 1, 5, 17] ?_
  (first | refine Z0c rfl ?_ ?_ | refine Z08 rfl ?_ ?_) <;> intro hc0
  ·refine Z00 (Zm (Z0b rfl rfl rfl (Z09 Z56 rfl rfl rfl ?_)))
   refine Z05 (Z0r (H2.ok mem0)) mem0 rfl rfl underlying3 rfl rfl rfl ?_
   refine Z0y rfl rfl rfl rfl (Z0l ZO) ?_
   refine Z0b rfl rfl rfl (Z09 Z56 rfl rfl rfl ?_)
   refine Z0s H2 .head (by repeat (first | exact .zero | apply Z1F.succ)) rfl tz3 rfl rfl ZR (fun w3 H3 => ?_)
   refine Z01 ?_
   refine Z0w (1) ?_ (.cons rfl (.cons rfl (.cons rfl .nil))) ?_
   ·exact ⟨H3, (if_pos hc0).symm⟩
   exact .nil
  refine Z0a ?_
  refine Z0w (0) ?_ (.cons rfl (.cons rfl (.cons rfl .nil))) ?_
  ·exact ⟨H2, (if_neg hc0).symm⟩
  exact .nil
 rintro p w4 ⟨H4, hp⟩
 subst hp
 refine Z03 (Z00 (Zm ?_))
 refine Zc func211 (digitsS b v t ZO (p0S t) (hp0) w4 (St.rows (τ := [As.blk b 239 [v, .int .i64 ((p0S t : Nat) : Int)]]) H4) (Z6f (τ := [As.blk b 239 [v, .int .i64 ((p0S t : Nat) : Int)]]) H4 hv)) ?_
 rintro vw w5 ⟨_, rfl, hvw, hX⟩
 have H5 := hX _ _ _ _ H4
 simp only [Zca, Zna] at H5
 refine Zg (Z01 (Z02 ?_))
 refine Zk [0, 1, 5, 6] ?_
 refine Z03 (Z00 (Zg (Z01 (Z02 (Z03 (Z00 (Zm (Z0b rfl rfl rfl (Z09 Z56 rfl rfl rfl ?_)))))))))
 refine Z05 (Z0r (H5.ok mem0)) mem0 rfl rfl underlying3 rfl rfl rfl ?_
 refine Z0j (s := 30) (v' := .int .i64 (ptS t : Int)) rfl rfl ?_
 refine Zg (Z01 (Z02 ?_))
 refine Zk [0, 1, 5, 6, 7, 8] ?_
 refine Z1q (ι := L8 × Value × Nat) (fun (z0 : L8 × Value × Nat) (w' : World) => match z0 with | ⟨f, vf, e⟩ => St w w.heap.size (fps [As.blk b 239 [v, .int .i64 0]]) ([As.blk b 239 [v, .int .i64 (e : Int)]]) w' ∧ f = frS t ∧ e = enS t ∧ ∀ w1 : World, IB w1 v t → IB w1 vf f) (fun (z0 : L8 × Value × Nat) => match z0 with | ⟨f, vf, e⟩ => [(7, vf)]) [0, 1, 5, 6, 8] (.cons rfl (.cons rfl (.cons rfl (.cons rfl (.cons rfl .nil))))) ?_ ?_
 ·refine Z03 (Z00 (Zm ?_))
  refine Zc func210 (isR b v t ZO (ptS t) 46 46 w5 (H5.ok mem0) (H5.ikM hv)) ?_
  rintro _ w6 ⟨rfl, hG⟩
  have H6 := hG _ _ _ _ H5
  simp only [Zca, Zna] at H6
  refine Z01 (Z02 ?_)
  refine Zk [0, 1, 5, 6, 7, 8, 32] ?_
  (first | refine Z0c rfl ?_ ?_ | refine Z08 rfl ?_ ?_) <;> intro hc1
  ·refine Z03 (Z00 (Zm (Z0b rfl rfl rfl (Z09 Z56 rfl rfl rfl ?_))))
   refine Z05 (Z0r (H6.ok mem0)) mem0 rfl rfl underlying3 rfl rfl rfl ?_
   refine Z0y rfl rfl rfl rfl (Z0l ZO) ?_
   refine Z0b rfl rfl rfl (Z09 Z56 rfl rfl rfl ?_)
   refine Z0s H6 .head (by repeat (first | exact .zero | apply Z1F.succ)) rfl tz3 rfl rfl ZR (fun w7 H7 => ?_)
   refine Z01 (Z02 ?_)
   refine Zk [0, 1, 5, 6, 8] ?_
   refine Z00 (Zm ?_)
   refine Zc func211 (digitsS b v t ZO (ptS t + 1) ZO w7 (St.rows (τ := [As.blk b 239 [v, .int .i64 ((ptS t + 1 : Nat) : Int)]]) H7) (Z6f (τ := [As.blk b 239 [v, .int .i64 ((ptS t + 1 : Nat) : Int)]]) H7 hv)) ?_
   rintro vf w8 ⟨_, rfl, hvf, hX⟩
   have H8 := hX _ _ _ _ H7
   simp only [Zca, Zna] at H8
   refine Zg (Z01 ?_)
   refine Z0w ((t.drop (ptS t + 1)).take (run (t.drop (ptS t + 1))), vf, ptS t + 1 + run (t.drop (ptS t + 1))) ?_ (.cons rfl (.cons rfl (.cons rfl (.cons rfl (.cons rfl .nil))))) ?_
   ·exact ⟨H8, (if_pos (show hasS t from ⟨hc1.1, hc1.2.elim id id⟩)).symm, (if_pos (show hasS t from ⟨hc1.1, hc1.2.elim id id⟩)).symm, hvf⟩
   exact (.cons rfl ZN .nil)
  refine Z0a ?_
  refine Z0w ([], .slice none 0 0, ptS t) ?_ (.cons rfl (.cons rfl (.cons rfl (.cons rfl (.cons rfl .nil))))) ?_
  ·exact ⟨H6, (if_neg (fun h : hasS t => hc1 ⟨h.1, .inl h.2⟩)).symm, (if_neg (fun h : hasS t => hc1 ⟨h.1, .inl h.2⟩)).symm, fun w1 _ => ib_nil w1⟩
  exact (.cons rfl ZN .nil)
 rintro ⟨f, vf, e⟩ w9 ⟨H9, hf, he, hwf⟩
 subst hf he
 show RunC P _ _ _ (_ :: _) _
 refine Z03 (Z03 ?_)
 refine Z2F ZK ZK ?_
 have H10 := H9.drewn
 refine Zm ?_
 refine Z4W rfl rfl underlying25 rfl (hvw _ (H10.ikM hv)) ?_
 refine Z0j (s := 43) (v' := .int .i64 (n1S t : Int)) rfl (congrArg (Value.int .i64) (congrArg Nat.cast (n1_len t))) ?_
 refine Zm ?_
 refine Z4W rfl rfl underlying25 rfl (hwf _ (H10.ikM hv)) ?_
 refine Z0y rfl rfl rfl rfl (Z0l ZO) ?_
 refine Ze ?_
 refine Zm ?_
 apply l_or (q := (enS t : Int) < (t.length : Int)) 10 [0, 1, 5, 6, 7, 8] rfl rfl (.cons rfl (.cons rfl (.cons rfl (.cons rfl (.cons rfl (.cons rfl (.cons rfl .nil))))))) rfl rfl (fun _ => rfl) rfl rfl rfl
 ·intro hg10_7
  refine Zm (Z0b rfl rfl rfl (Z09 Z56 rfl rfl rfl ?_))
  refine Z05 (Z0r (H10.ok mem0)) mem0 rfl rfl underlying3 rfl rfl rfl ?_
  refine Zm (Z0b rfl rfl rfl (Z09 Z5O rfl rfl rfl ?_))
  refine Z05 (Z0r (H10.ok mem0)) mem0 rfl rfl underlying25 rfl rfl rfl ?_
  refine Z4W rfl rfl underlying25 rfl (by first | exact H10.ibl mem0 | exact H10.ikM hv | assumption) ?_
  refine Zl ?_
  refine Z01 ?_
  exact Z0O rfl (.cons rfl (ZF hg10_7) (.cons rfl rfl (.cons rfl rfl (.cons rfl rfl (.cons rfl rfl (.cons rfl rfl (.cons rfl rfl .nil)))))))
  all_goals infer_instance
 refine Z01 (Z02 ?_)
 refine Zk [0, 1, 5, 6, 7, 8, 59] ?_
 (first | refine Z0c rfl ?_ ?_ | refine Z08 rfl ?_ ?_) <;> intro hc2
 ·refine Z00 (Zm (Z0b rfl rfl rfl (Z09 Z56 rfl rfl rfl ?_)))
  refine Z05 (Z0r (H10.ok mem0)) mem0 rfl rfl underlying3 rfl rfl rfl ?_
  refine Z16 rfl rfl pl235 ta235 (.one rfl rfl ZR .zero (.one rfl rfl ZR (.succ .zero) .nil)) ?_
  refine l_makeI rfl rfl ZK rfl ?_
  refine l_panic rfl ?_
  refine Z5m ?_
  refine Z6V ?_
  refine .inr ⟨_, rfl, ?_⟩
  exact ⟨_, _, _, rfl, ZO, ZO, fun h => by have h1 := h.1; have h2 := h.2.1; omega, H10.transS⟩
 refine Z0a (Z02 ?_)
 refine Zk [1, 5, 6, 7, 8] ?_
 refine Z03 (Z03 (Z00 (Zm (Zg (Z01 (Z02 ?_))))))
 refine Zk [1, 5, 6, 7, 8, 9] ?_
 refine Z0d ?_
 refine Z0z (ι := Nat) (fun (i : Nat) => (frS t).length - i) (fun (i : Nat) (w' : World) => St w w.heap.size (fps [As.blk b 239 [v, .int .i64 0]]) ([As.blk b 239 [v, .int .i64 (enS t : Int)]]) w' ∧ s ≤ i ∧ ∀ j, s ≤ j → j < i → j < (frS t).length → tvS (frS t) j = 48) (fun (i : Nat) => [(9, .int .i64 (i : Int))]) [1, 5, 6, 7, 8] (s) ?_ (.cons rfl (.cons rfl (.cons rfl (.cons rfl (.cons rfl .nil))))) ?_ ?_
 ·exact ⟨H10, ZO, fun j h1 h2 => by omega⟩
 ·exact (.cons rfl ZN .nil)
 rintro i w11 ⟨H11, hi, hz⟩
 show RunC P _ _ _ (_ :: _) _
 refine Z03 (Z03 (Z00 (Zm (Zm ?_))))
 refine Z4W rfl rfl underlying25 rfl (hwf _ (H11.ikM hv)) ?_
 refine Zl ?_
 refine Z01 (Z02 ?_)
 refine Zk [1, 5, 6, 7, 8, 9, 70] ?_
 (first | refine Z0c rfl ?_ ?_ | refine Z08 rfl ?_ ?_) <;> intro hc3
 ·refine Z0a (Z02 ?_)
  refine Zk [1, 5, 6, 7, 8, 9] ?_
  refine Z03 (Z0d (Z03 (Z00 (Zm (Zm ?_)))))
  refine Z4Z (j := i) rfl rfl rfl rfl underlying25 tz5 underlying5 rfl rfl (hwf _ (H11.ikM hv)) rfl rfl ZO (fun hb15 => ?_)
  refine Zo ?_
  refine Z01 (Z02 ?_)
  refine Zk [1, 5, 6, 7, 8, 9, 77] ?_
  (first | refine Z0c rfl ?_ ?_ | refine Z08 rfl ?_ ?_) <;> intro hc4
  ·refine Z00 (Zm ?_)
   refine Z0y rfl rfl rfl rfl (Z0l ZO) ?_
   refine Zm ?_
   refine Z0y rfl rfl rfl rfl (Z0l ZO) ?_
   refine Z16 rfl rfl pl235 ta235 (.one rfl rfl ZR .zero (.one rfl rfl ZR (.succ .zero) .nil)) ?_
   refine l_makeI rfl rfl ZK rfl ?_
   refine l_panic rfl ?_
   refine e_blk_panic ?_
   refine Z5m ?_
   refine Z5m ?_
   refine e_blk_panic ?_
   refine Z5m ?_
   refine Z6V ?_
   refine .inr ⟨_, rfl, ?_⟩
   exact ⟨_, _, _, rfl, ZO, ZO, fun h => by have h3 := h.2.2.1 i hi ZO; unfold tvS at h3; omega, H11.transS⟩
  refine Z0a ?_
  refine Z0F ?_
  refine Z02 ?_
  refine Zk [1, 5, 6, 7, 8, 9] ?_
  refine Z00 (Zm ?_)
  refine Z0y rfl rfl rfl rfl (Z0l ZO) ?_
  refine Zg (Z01 ?_)
  refine Z0p (i := (i)) (i + 1) ?_ ?_ (.cons rfl (.cons rfl (.cons rfl (.cons rfl (.cons rfl .nil))))) ?_
  ·first | omega | (simp; omega)
  ·exact ⟨H11, ZO, fun j h1 h2 h3 => by
    by_cases e : j = i
    ·subst e; unfold tvS; omega
    exact hz j h1 ZO h3⟩
  exact (.cons rfl ZN .nil)
 refine Z0H ?_
 refine Z06 ?_
 refine Z06 ?_
 refine Z0h ?_
 refine Z02 ?_
 refine Zk [1, 5, 6, 7] ?_
 refine Z03 (Z00 ?_)
 have hz2 : ∀ j, s ≤ j → j < (frS t).length → tvS (frS t) j = 48 := fun j h1 h2 => hz j h1 ZO h2
 refine Z2g H11 rfl rfl underlying25 ti5 rfl (.cons rfl ZR .nil) rfl rfl rfl (fun b17_0 w12 H12 => ?_)
 refine Zm ?_
 have H13 := St.blk_own H12 (by simp [maxLen])
 refine Z45 H13 rfl rfl underlying25 ti5 rfl rfl rfl (hvw _ (H13.ikM hv)) (Z5L _) (by have := n1_len t; have := n1_bd t; simp [bys] at *; omega) (by have := n1_len t; have := n1_bd t; simp [bys] at *; omega) (fun v17_2 w14 H14 => ?_)
 refine Zg (Z01 (Z02 ?_))
 refine Zk [1, 5, 7, 10] ?_
 refine Z03 (Z03 (Z00 (Zm (Zm (Z01 (Z02 ?_))))))
 refine Zk [5, 7, 10, 87, 88] ?_
 refine Z0d ?_
 refine Z0z (ι := Nat × Value) (fun (z0 : Nat × Value) => match z0 with | ⟨i, va⟩ => s - i) (fun (z0 : Nat × Value) (w' : World) => match z0 with | ⟨i, va⟩ => St w w.heap.size (fps [As.blk b 239 [v, .int .i64 0]]) ([As.rb 5 va (48 :: ((t.drop (p0S t)).take (n1S t) ++ ftS (frS t) i)), As.blk b 239 [v, .int .i64 (enS t : Int)]]) w' ∧ i ≤ s) (fun (z0 : Nat × Value) => match z0 with | ⟨i, va⟩ => [(10, va), (88, .int .i64 (i : Int))]) [5, 7, 87] (0, v17_2) ?_ (.cons rfl (.cons rfl (.cons rfl .nil))) ?_ ?_
 ·exact ⟨H14.cast (congrArg (fun z => [As.ro _ _ z, _]) (rbS1 (t.drop (p0S t)) _ (frS t))), ZO⟩
 ·exact (.cons rfl ZN (.cons rfl ZN .nil))
 rintro ⟨i, va⟩ w15 ⟨H15, hi2⟩
 show RunC P _ _ _ (_ :: _) _
 refine Z03 (Z00 ?_)
 refine Zl ?_
 refine Z01 (Z02 (Z03 ?_))
 (first | refine Z0c rfl ?_ ?_ | refine Z08 rfl ?_ ?_) <;> intro hc5
 ·refine Z0a (Z02 ?_)
  refine Zk [5, 7, 10, 87, 88] ?_
  refine Z03 (Z0d (Z03 (Z00 (Zm (Zg (Z01 (Z02 ?_)))))))
  refine Zk [5, 7, 10, 11, 87, 88] ?_
  refine Z03 (Z00 ?_)
  have hft := ft_len (frS t) i
  refine Zm (Zm ?_)
  refine Z4W rfl rfl underlying25 rfl (hwf _ (H15.ikM hv)) ?_
  refine Zl ?_
  refine Z01 (Z02 ?_)
  refine Zk [5, 7, 10, 11, 87, 88, 94] ?_
  (first | refine Z0c rfl ?_ ?_ | refine Z08 rfl ?_ ?_) <;> intro hc6
  ·refine Z00 (Zm (Zm (Zm ?_)))
   refine Z4Z (j := i) rfl rfl rfl rfl underlying25 tz5 underlying5 rfl rfl (hwf _ (H15.ikM hv)) rfl rfl ZO (fun hb22 => ?_)
   refine Z2g H15 rfl rfl underlying25 ti5 rfl (.cons rfl ZR .nil) rfl rfl rfl (fun b22_5 w16 H16 => ?_)
   refine Z46 H16 rfl rfl underlying25 ti5 rfl rfl rfl rfl (by first | (simp [Value.oneCell']; done) | (intro u hu; rw [List.mem_singleton.1 hu]; assumption)) (by first | (simp; done) | (simp; omega)) (by first | (simp; done) | (simp; omega)) (fun v22_6 w17 H17 => ?_)
   refine Zg (Z01 ?_)
   refine Z0F ?_
   refine Z02 ?_
   refine Zk [5, 7, 10, 87, 88] ?_
   refine Z00 ?_
   refine Z0y rfl rfl rfl rfl (Z0l ZO) ?_
   refine Zm (Z01 ?_)
   refine Z0p (i := (i, va)) (i + 1, v22_6) ?_ ?_ (.cons rfl (.cons rfl (.cons rfl .nil))) ?_
   ·first | omega | (simp; omega)
   ·exact ⟨H17.cast (by rw [ft_snoc, if_pos ZO]; exact congrArg (fun z => [As.ro _ _ z, _]) (rbS2 _ _ _)), ZO⟩
   exact (.cons rfl ZN (.cons rfl ZN .nil))
  refine Z00 (Zm ?_)
  refine Z2g H15 rfl rfl underlying25 ti5 rfl (.cons rfl ZR .nil) rfl rfl rfl (fun b23_1 w18 H18 => ?_)
  refine Z46 H18 rfl rfl underlying25 ti5 rfl rfl rfl rfl (by first | (simp [Value.oneCell']; done) | (intro u hu; rw [List.mem_singleton.1 hu]; assumption)) (by first | (simp; done) | (simp; omega)) (by first | (simp; done) | (simp; omega)) (fun v23_2 w19 H19 => ?_)
  refine Zg (Z01 ?_)
  refine Z0F ?_
  refine Z02 ?_
  refine Zk [5, 7, 10, 87, 88] ?_
  refine Z00 ?_
  refine Z0y rfl rfl rfl rfl (Z0l ZO) ?_
  refine Zm (Z01 ?_)
  refine Z0p (i := (i, va)) (i + 1, v23_2) ?_ ?_ (.cons rfl (.cons rfl (.cons rfl .nil))) ?_
  ·first | omega | (simp; omega)
  ·exact ⟨H19.cast (by rw [ft_snoc, if_neg ZO]; exact congrArg (fun z => [As.ro _ _ z, _]) (rbS2 _ _ 48)), ZO⟩
  exact (.cons rfl ZN (.cons rfl ZN .nil))
 refine Z0H ?_
 refine Z06 ?_
 refine Z06 ?_
 refine Z0h ?_
 refine Z02 ?_
 refine Zk [5, 10] ?_
 refine Z03 (Z00 ?_)
 have his : i = s := by omega
 rw [his] at H15
 refine Zm ?_
 refine Zc func212 (valueW va (Z6w t s) (digl_at (all_dig t s)) ZO ZO w15 (Own.iv (H15.ok mem0))) ?_
 rintro _ _ ⟨x, e, rfl, hxu, hei, hxe, rfl⟩
 refine Zm ?_
 refine Zx (Zx (Zg (Zg (Z01 (Z02 ?_)))))
 refine Zk [5, 12, 13] ?_
 refine Z03 (Z03 (Z00 (Zm ?_)))
 refine Zo ?_
 refine Zm ?_
 apply l_or (q := 999999999999999999 < x) 2 [5, 12] rfl rfl (.cons rfl (.cons rfl (.cons rfl .nil))) rfl rfl (fun _ => rfl) rfl rfl rfl
 ·intro hg26_3
  refine Zm ?_
  refine Zw ?_
  refine Z01 ?_
  exact Z0O rfl (.cons rfl (ZF hg26_3) (.cons rfl rfl (.cons rfl rfl .nil)))
  all_goals infer_instance
 refine Z01 (Z02 ?_)
 refine Zk [5, 12, 116] ?_
 (first | refine Z0c rfl ?_ ?_ | refine Z08 rfl ?_ ?_) <;> intro hc7
 ·refine Z00 ?_
  refine Z16 rfl rfl pl235 ta235 (.one rfl rfl ZR .zero (.one rfl rfl ZR (.succ .zero) .nil)) ?_
  refine l_makeI rfl rfl ZK rfl ?_
  refine l_panic rfl ?_
  refine Z5m ?_
  refine Z6V ?_
  refine .inr ⟨_, rfl, ?_⟩
  have H20 := St.frontL (l := [_]) H15
  simp only [Zca, Zna] at H20
  have H21 := St.del (.tail .head) H20
  exact ⟨_, _, _, rfl, ZO, ZO, fun h => by have h3 := h.2.2.2; omega, H21.transS⟩
 refine Z0a (Z02 ?_)
 refine Zk [5, 12] ?_
 refine Z03 (Z03 (Z00 (Zm (Z01 (Z02 ?_)))))
 refine Zk [12, 119] ?_
 (first | refine Z0c rfl ?_ ?_ | refine Z08 rfl ?_ ?_) <;> intro hc8
 ·refine Z03 (Z00 (Zm ?_))
  refine Z5M rfl rfl rfl rfl ?_
  refine Zg (Z01 (Z02 ?_))
  refine Zk [4] ?_
  refine Z0i ?_
  refine Z07 ?_
  refine Z0e results159 rfl ?_
  refine .inl ⟨_, rfl, ?_⟩
  have H23 := St.del (.tail .head) (St.front1 H15)
  have hpx : x = pv (Z6w t s) := by omega
  subst hpx
  refine ⟨_, congrArg (Value.int .u64) ?_, ⟨ZO, ZO, hz2, ZO⟩, H23.transS⟩
  exact (if_pos ⟨hc8.1, hc8.2.elim id id⟩).symm
 refine Z0a (Z02 ?_)
 refine Zk [12] ?_
 refine Z03 (Z00 (Zm (Zg (Z01 (Z02 ?_)))))
 refine Zk [4] ?_
 refine Z0i ?_
 refine Z0e results159 rfl ?_
 refine .inl ⟨_, rfl, ?_⟩
 have H25 := St.del (.tail .head) (St.front1 H15)
 have hpx : x = pv (Z6w t s) := by omega
 subst hpx
 refine ⟨_, congrArg (Value.int .u64) ?_, ⟨ZO, ZO, hz2, ZO⟩, H25.transS⟩
 exact (if_neg fun h => hc8 ⟨h.1, .inl h.2⟩).symm
end Go.Proofs.YtgjgahmhoflgcaaGreatDoor.W
