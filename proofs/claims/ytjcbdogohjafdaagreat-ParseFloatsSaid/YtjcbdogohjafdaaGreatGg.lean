/- walks of the document's bits: shapes, Class, Split, Next, Prev, Cmp -/
import Derived.Test.YtjcbdogohjafdaaGreatVr
import Derived.Test.YtjcbdogohjafdaaGreatGd
set_option linter.unusedVariables false
set_option linter.unusedSimpArgs false
set_option maxRecDepth 10000
namespace Go.Proofs.YtjcbdogohjafdaaGreat.W
open Go.Vc Go.RowKit Tryz
def Kd.X : Kd → Int | .f32 => 256 | .f64 => 2048
theorem sh_X (d : Kd) : IntKind.u64.wrap (1 * 2 ^ (min ((d.A : Int) - d.M).toNat 64)) = d.X := by cases d <;> rfl
theorem sh_Xi (d : Kd) : IntKind.i64.wrap (1 * 2 ^ (min ((d.A : Int) - d.M).toNat 64)) = d.X := by cases d <;> rfl
theorem sh_Xh (d : Kd) : IntKind.i64.wrap (1 * 2 ^ (min ((d.A : Int) - d.M - 1).toNat 64)) = d.X / 2 := by cases d <;> rfl
theorem sh_least (d : Kd) : 2 - d.X / 2 - ((d.M : Int) - 1) = -(d.l : Int) := by cases d <;> rfl
theorem Z5x (d : Kd) {s : Int} (h : 0 ≤ s ∧ s < d.S) : 0 ≤ s / d.H ∧ s / d.H < d.X ∧ 0 ≤ s % d.H ∧ s % d.H < d.H ∧ ((s / d.H).tmod d.X = s / d.H) ∧ (s / d.H = d.X - 1 ↔ d.I ≤ s) ∧ (s = d.I ↔ s / d.H = d.X - 1 ∧ s % d.H = 0) ∧ (s / d.H = 0 ↔ s < d.H) ∧ (s < d.H → s % d.H = s) ∧ (s = 0 ↔ s / d.H = 0 ∧ s % d.H = 0) := by
 have key : 0 ≤ s / d.H ∧ s / d.H < d.X ∧ 0 ≤ s % d.H ∧ s % d.H < d.H ∧ (s / d.H = d.X - 1 ↔ d.I ≤ s) ∧ (s = d.I ↔ s / d.H = d.X - 1 ∧ s % d.H = 0) ∧ (s / d.H = 0 ↔ s < d.H) ∧ (s < d.H → s % d.H = s) ∧ (s = 0 ↔ s / d.H = 0 ∧ s % d.H = 0) := by
  cases d
  ·have h2 : s < 2147483648 := h.2
   show 0 ≤ s / 8388608 ∧ s / 8388608 < 256 ∧ 0 ≤ s % 8388608 ∧ s % 8388608 < 8388608 ∧ (s / 8388608 = 256 - 1 ↔ 2139095040 ≤ s) ∧ (s = 2139095040 ↔ s / 8388608 = 256 - 1 ∧ s % 8388608 = 0) ∧ (s / 8388608 = 0 ↔ s < 8388608) ∧ (s < 8388608 → s % 8388608 = s) ∧ (s = 0 ↔ s / 8388608 = 0 ∧ s % 8388608 = 0)
   omega
  have h2 : s < 9223372036854775808 := h.2
  show 0 ≤ s / 4503599627370496 ∧ s / 4503599627370496 < 2048 ∧ 0 ≤ s % 4503599627370496 ∧ s % 4503599627370496 < 4503599627370496 ∧ (s / 4503599627370496 = 2048 - 1 ↔ 9218868437227405312 ≤ s) ∧ (s = 9218868437227405312 ↔ s / 4503599627370496 = 2048 - 1 ∧ s % 4503599627370496 = 0) ∧ (s / 4503599627370496 = 0 ↔ s < 4503599627370496) ∧ (s < 4503599627370496 → s % 4503599627370496 = s) ∧ (s = 0 ↔ s / 4503599627370496 = 0 ∧ s % 4503599627370496 = 0)
  omega
 exact ⟨key.1, key.2.1, key.2.2.1, key.2.2.2.1, by rw [Int.tmod_eq_emod_of_nonneg key.1]; exact Int.emod_eq_of_lt key.1 key.2.1, key.2.2.2.2⟩
theorem kd_9 {k : Int} {d : Kd} (h : kd k = some d) : (if k = 9 then (23 : Int) else 52) = (d.M : Int) - 1 ∧ (if k = 9 then (8 : Int) else 11) = (d.A : Int) - d.M ∧ (if k = 9 then (2147483648 : Int) else 9223372036854775808) = d.S ∧ (if k = 9 then (2139095039 : Int) else 9218868437227405311) = d.I - 1 ∧ (if k = 9 then (2143289344 : Int) else 9221120237041090560) = nanS d := by
 rcases Z41 h with ⟨rfl, rfl⟩ | ⟨rfl, rfl⟩ <;> exact ⟨rfl, rfl, rfl, rfl, rfl⟩
theorem kd_is {k : Int} : (kd k).isSome = decide (k = 9 ∨ k = 10) := by
 unfold kd
 split
 ·rename_i h; rw [decide_eq_true (.inl h)]; rfl
 rename_i h
 split
 ·rename_i h2; rw [decide_eq_true (.inr h2)]; rfl
 rename_i h2; rw [decide_eq_false (fun h3 => h3.elim h h2)]; rfl
theorem quo_tmod {s y : Int} (hs : 0 ≤ s) : s.tmod y = s % y := Int.tmod_eq_emod_of_nonneg hs
theorem shape3 (k : Int) (w : World) :
  Z0g P 82 [.int .i64 k] w fun r w' => r = .tuple #[.int .i64 (if k = 9 then 23 else 52), .int .i64 (if k = 9 then 8 else 11), .bool (kd k).isSome] ∧ w = w' := by
 refine Z0o func82 rfl ntmps82 rfl ?_
 refine Z03 (Z00 (Zg (Zg (Zg (Z02 (Z01 (Z03 (Z03 (Z00 (Zm ?_))))))))))
 refine Ze ?_
 refine Z02 (Z01 ?_)
 (first | refine Z08 rfl ?_ ?_ | refine Z05 rfl ?_ ?_) <;> intro hc0
 ·refine Z03 (Z00 (Zg (Zg (Zg (Z02 (Z01 ?_))))))
  refine Zk [2, 3, 4] ?_
  refine Z0f ?_
  refine Z06 ?_
  refine Z0p results82 (.tmp rfl (.tmp rfl (.tmp rfl .nil))) rfl ?_
  refine ⟨_, rfl, ?_⟩
  exact ⟨by rw [if_pos hc0, if_pos hc0, kd_is, decide_eq_true (.inl hc0)], rfl⟩
 refine Z09 (Z01 (Z03 (Z00 (Zm ?_))))
 refine Ze ?_
 refine Zg (Zg (Zg (Z02 (Z01 ?_))))
 refine Z0f ?_
 refine Z0p results82 (.tmp rfl (.tmp rfl (.tmp rfl .nil))) rfl ?_
 refine ⟨_, rfl, ?_⟩
 exact ⟨by rw [if_neg hc0, if_neg hc0, kd_is, decide_eq_decide.2 (show (k = 9 ∨ k = 10) ↔ k = 10 from ⟨fun h => h.elim (fun h => absurd h hc0) id, .inr⟩)], rfl⟩
theorem shape3k {k : Int} {d : Kd} (hk : kd k = some d) (w : World) : Z0g P 82 [.int .i64 k] w fun r w' => r = .tuple #[.int .i64 ((d.M : Int) - 1), .int .i64 ((d.A : Int) - d.M), .bool true] ∧ w = w' := by
 have h9 := kd_9 hk
 refine (shape3 k w).mono ?_
 rintro r _ ⟨rfl, rfl⟩
 rw [h9.1, h9.2.1, hk]
 exact ⟨rfl, rfl⟩
theorem sign3 (k : Int) (d : Kd) (hk : kd k = some d) (w : World) :
  Z0g P 84 [.int .i64 k] w fun r w' => r = .int .u64 d.S ∧ w = w' := by
 refine Z0o func84 rfl ntmps84 rfl ?_
 have hbd := d.bd
 have h9 := kd_9 hk
 refine Z03 (Z00 (Zg (Z02 (Z01 (Z03 (Z03 (Z00 (Zm ?_))))))))
 refine Ze ?_
 refine Z02 (Z01 ?_)
 (first | refine Z08 rfl ?_ ?_ | refine Z05 rfl ?_ ?_) <;> intro hc0
 ·refine Z03 (Z00 (Zg (Z02 (Z01 ?_))))
  refine Zk [2] ?_
  refine Z0f ?_
  refine Z06 ?_
  refine Z0l results84 rfl ?_
  refine ⟨_, rfl, ?_⟩
  exact ⟨by rw [← h9.2.2.1, if_pos hc0], rfl⟩
 refine Z09 (Z01 (Z03 (Z00 (Zg (Z02 (Z01 ?_))))))
 refine Z0f ?_
 refine Z0l results84 rfl ?_
 refine ⟨_, rfl, ?_⟩
 exact ⟨by rw [← h9.2.2.1, if_neg hc0], rfl⟩
theorem check3 (k b : Int) (hb : 0 ≤ b ∧ b ≤ 18446744073709551615) (w : World) :
  Z0g P 43 [.int .i64 k, .int .u64 b] w fun r w' => r = .int .i64 (chk k b) ∧ w = w' := by
 refine Z0o func43 rfl ntmps43 rfl ?_
 refine Z03 (Z00 (Zg (Z02 (Z01 (Z03 (Z00 (Zm ?_)))))))
 refine Zp func82 (shape3 k w) ?_
 refine Zm ?_
 refine Zx (Zx (Zx (Zg (Zg (Zg (Z02 (Z01 (Z03 (Z03 (Z00 (Zm ?_)))))))))))
 first | refine Z1c rfl rfl rfl ?_ | refine Z1N rfl rfl rfl ?_
 refine Z02 (Z01 ?_)
 refine Zk [0, 1, 15] ?_
 (first | refine Z08 rfl ?_ ?_ | refine Z05 rfl ?_ ?_) <;> intro hc0
 ·refine Z03 (Z00 (Zg (Z02 (Z01 ?_))))
  refine Z0f ?_
  refine Z06 ?_
  refine Z0l results43 rfl ?_
  refine ⟨_, rfl, ?_⟩
  have hn : kd k = none := by
   cases h : kd k with
   | none => rfl
   | some d => rw [h] at hc0; simp at hc0
  exact ⟨by rw [chk_none hn], rfl⟩
 refine Z09 (Z01 (Z03 (Z03 (Z00 (Zm ?_)))))
 refine Ze ?_
 refine Zm ?_
 apply Z13 2 [] rfl rfl (.cons rfl .nil) rfl rfl (fun _ => rfl) rfl rfl rfl
 ·intro hg4_3
  refine Zm ?_
  refine Zh ?_
  refine Z02 ?_
  exact Z0n rfl (.cons rfl (ZT hg4_3) .nil)
 refine Z02 (Z01 ?_)
 refine Zk [21] ?_
 (first | refine Z08 rfl ?_ ?_ | refine Z05 rfl ?_ ?_) <;> intro hc1
 ·refine Z03 (Z00 (Zg (Z02 (Z01 ?_))))
  refine Z0f ?_
  refine Z06 ?_
  refine Z0l results43 rfl ?_
  refine ⟨_, rfl, ?_⟩
  exact ⟨by unfold chk; rw [if_pos hc1.1, if_neg ZO], rfl⟩
 refine Z09 (Z01 (Z03 (Z00 (Zg (Z02 (Z01 ?_))))))
 refine Z0f ?_
 refine Z0l results43 rfl ?_
 refine ⟨_, rfl, ?_⟩
 refine ⟨?_, rfl⟩
 obtain ⟨d, hd⟩ : ∃ d, kd k = some d := by
  cases h : kd k with
  | none => rw [h] at hc0; simp at hc0
  | some d => exact ⟨d, rfl⟩
 rcases Z41 hd with ⟨h9, rfl⟩ | ⟨h9, rfl⟩
 ·unfold chk; rw [if_pos h9, if_pos ZO]
 unfold chk; rw [if_neg ZO, if_pos h9]
theorem parts3 (k : Int) (d : Kd) (hk : kd k = some d) (b : Int) (hb : 0 ≤ b ∧ b < 2 * d.S) (w : World) :
  Z0g P 83 [.int .i64 k, .int .u64 b] w fun r w' => r = .tuple #[.int .i64 (b % d.S / d.H), .int .u64 (b % d.S % d.H)] ∧ Grow w w' [] := by
 refine Z0o func83 rfl ntmps83 rfl ?_
 have H0 := St.start w
 have hbd := d.bd
 have h9 := kd_9 hk
 have hms := mod_S d hb
 have hpt := Z5x d (s := b % d.S) ZO
 have hXb : 256 ≤ d.X ∧ d.X ≤ 2048 := by cases d <;> decide
 refine Z03 (Z00 (Zg (Zg (Z02 (Z01 (Z03 (Z00 (Zm ?_))))))))
 refine Zp func82 (shape3k hk w) ?_
 refine Zm ?_
 refine Zx (Zx (Zx (Zg (Zg (Zg (Z02 (Z01 (Z03 (Z00 (Zm (Zm ?_)))))))))))
 refine Zp func84 (sign3 k d hk w) ?_
 refine Z2x rfl rfl rfl rfl ZO (quo_tmod hb.1) ?_
 refine Zg (Z02 (Z01 ?_))
 refine Zk [1, 6, 7] ?_
 refine Z03 ?_
 have H1 := H0.drewn
 refine Z2t (n := 16) [Zz,Zz,Zz,Zz,Zz,Zz,Zz,Zz,Zz,Zz,Zz,Zz,Zz,Zz,Zz,Zz] (fun wS => True) ZK rfl rfl ?_
 apply Zu (L' := [Zy,Zz,Zz,Zz,Zz,Zz,Zz,Zz,Zz,Zz,Zz,Zz,Zz,Zz,Zz,Zz]) 0 (trivial)
 ·intro wS sS
  refine Zm (Z02 ?_)
  exact Z0m rfl
 apply Zu (L' := [Zy,Zy,Zz,Zz,Zz,Zz,Zz,Zz,Zz,Zz,Zz,Zz,Zz,Zz,Zz,Zz]) 1 (trivial)
 ·intro wS sS
  refine Zm (Z02 ?_)
  exact Z0m rfl
 apply Zu (L' := [Zy,Zy,Zy,Zz,Zz,Zz,Zz,Zz,Zz,Zz,Zz,Zz,Zz,Zz,Zz,Zz]) 2 (trivial)
 ·intro wS sS
  refine Z1A rfl rfl underlying3 underlying104 rfl (Z0M ZO) ?_
  refine Z02 ?_
  exact Z0m rfl
 apply Zu (L' := [Zy,Zy,Zy,Zy,Zz,Zz,Zz,Zz,Zz,Zz,Zz,Zz,Zz,Zz,Zz,Zz]) 3 (trivial)
 ·intro wS sS
  refine Z1O rfl rfl rfl rfl ZO (shr_H d ZO) ?_
  refine Z02 ?_
  exact Z0m rfl
 apply Zu (L' := [Zy,Zy,Zy,Zy,Zy,Zz,Zz,Zz,Zz,Zz,Zz,Zz,Zz,Zz,Zz,Zz]) 4 (trivial)
 ·intro wS sS
  refine Zm (Z02 ?_)
  exact Z0m rfl
 apply Zu (L' := [Zy,Zy,Zy,Zy,Zy,Zy,Zz,Zz,Zz,Zz,Zz,Zz,Zz,Zz,Zz,Zz]) 5 (trivial)
 ·intro wS sS
  refine Z1A rfl rfl underlying3 underlying104 rfl (Z0M ZO) ?_
  refine Z02 ?_
  exact Z0m rfl
 apply Zu (L' := [Zy,Zy,Zy,Zy,Zy,Zy,Zy,Zz,Zz,Zz,Zz,Zz,Zz,Zz,Zz,Zz]) 6 (trivial)
 ·intro wS sS
  refine Z37 rfl rfl rfl rfl ZO (sh_X d) ?_
  refine Z02 ?_
  exact Z0m rfl
 apply Zu (L' := [Zy,Zy,Zy,Zy,Zy,Zy,Zy,Zy,Zz,Zz,Zz,Zz,Zz,Zz,Zz,Zz]) 7 (trivial)
 ·intro wS sS
  refine Z2x rfl rfl rfl rfl ZO (hpt.2.2.2.2.1) ?_
  refine Z02 ?_
  exact Z0m rfl
 apply Zu (L' := [Zy,Zy,Zy,Zy,Zy,Zy,Zy,Zy,Zy,Zz,Zz,Zz,Zz,Zz,Zz,Zz]) 8 (trivial)
 ·intro wS sS
  refine Z1A rfl rfl underlying30 underlying3 rfl (Z0h ZO) ?_
  refine Z02 ?_
  exact Z0m rfl
 apply Zu (L' := [Zy,Zy,Zy,Zy,Zy,Zy,Zy,Zy,Zy,Zy,Zz,Zz,Zz,Zz,Zz,Zz]) 9 (trivial)
 ·intro wS sS
  refine Zm (Z02 ?_)
  exact Z0m rfl
 apply Zu (L' := [Zy,Zy,Zy,Zy,Zy,Zy,Zy,Zy,Zy,Zy,Zy,Zz,Zz,Zz,Zz,Zz]) 10 (trivial)
 ·intro wS sS
  refine Zm (Z02 ?_)
  exact Z0m rfl
 apply Zu (L' := [Zy,Zy,Zy,Zy,Zy,Zy,Zy,Zy,Zy,Zy,Zy,Zy,Zz,Zz,Zz,Zz]) 11 (trivial)
 ·intro wS sS
  refine Z1A rfl rfl underlying3 underlying104 rfl (Z0M ZO) ?_
  refine Z02 ?_
  exact Z0m rfl
 apply Zu (L' := [Zy,Zy,Zy,Zy,Zy,Zy,Zy,Zy,Zy,Zy,Zy,Zy,Zy,Zz,Zz,Zz]) 12 (trivial)
 ·intro wS sS
  refine Z37 rfl rfl rfl rfl ZO (Z56 d) ?_
  refine Z02 ?_
  exact Z0m rfl
 apply Zu (L' := [Zy,Zy,Zy,Zy,Zy,Zy,Zy,Zy,Zy,Zy,Zy,Zy,Zy,Zy,Zz,Zz]) 13 (trivial)
 ·intro wS sS
  refine Z2x rfl rfl rfl rfl ZO (quo_tmod ZO) ?_
  refine Z02 ?_
  exact Z0m rfl
 apply Zu (L' := [Zy,Zy,Zy,Zy,Zy,Zy,Zy,Zy,Zy,Zy,Zy,Zy,Zy,Zy,Zy,Zz]) 14 (trivial)
 ·intro wS sS
  refine Zg (Z02 ?_)
  exact Z0m rfl
 apply Zu (L' := [Zy,Zy,Zy,Zy,Zy,Zy,Zy,Zy,Zy,Zy,Zy,Zy,Zy,Zy,Zy,Zy]) 15 (trivial)
 ·intro wS sS
  refine Zg (Z02 ?_)
  exact Z0m rfl
 refine Z14 ZK ?_
 refine Z01 ?_
 refine Z0f ?_
 refine Z0x results83 rfl rfl ?_
 refine ⟨_, rfl, ?_⟩
 exact ⟨rfl, H1.grows⟩
theorem class3 (k b : Int) (hb : 0 ≤ b ∧ b ≤ 18446744073709551615) (w : World) :
  Z0g P 140 [.int .i64 k, .int .u64 b] w fun r w' => r = .tuple #[.int .i64 (clsF k b).1, .int .i64 (clsF k b).2] ∧ Grow w w' [] := by
 refine Z0o func140 rfl ntmps140 rfl ?_
 have H0 := St.start w
 refine Z03 (Z00 (Zg (Zg (Z02 (Z01 (Z03 (Z03 (Z00 (Zm (Zm ?_))))))))))
 refine Zp func43 (check3 k b hb w) ?_
 refine Zg (Z02 (Z01 (Z03 (Z00 (Zm ?_)))))
 refine Zo ?_
 refine Z02 (Z01 ?_)
 refine Zk [0, 1, 6, 16] ?_
 (first | refine Z08 rfl ?_ ?_ | refine Z05 rfl ?_ ?_) <;> intro hc0
 ·refine Z03 (Z00 (Zm (Zg (Zg (Z02 (Z01 ?_))))))
  refine Z0f ?_
  refine Z06 ?_
  refine Z0x results140 rfl rfl ?_
  refine ⟨_, rfl, ?_⟩
  refine ⟨?_, H0.grows⟩
  unfold clsF
  rw [ofk_bad hc0]
  all_goals rfl
 obtain ⟨d, hk, hlt⟩ := chk_ok (k := k) (b := b) ZO hb.2
 have hk0 := Z3L hk hlt
 have hb2 : 0 ≤ b ∧ b < 2 * d.S := ⟨hb.1, hlt⟩
 have hbd := d.bd
 have h9 := kd_9 hk
 have hms := mod_S d hb2
 have hpt := Z5x d (s := b % d.S) ZO
 have hXb : 256 ≤ d.X ∧ d.X ≤ 2048 := by cases d <;> decide
 refine Z09 (Z01 (Z03 (Z00 (Zm ?_))))
 refine Zp func82 (shape3k hk w) ?_
 refine Zm ?_
 refine Zx (Zx (Zx (Zg (Zg (Zg (Z02 (Z01 ?_)))))))
 refine Zk [0, 1, 8] ?_
 refine Z03 (Z00 (Zm (Zm ?_)))
 refine Zc func83 (parts3 k d hk b hb2 w) ?_
 rintro _ w1 ⟨rfl, hG⟩
 have H1 := hG _ _ _ _ H0
 simp only [Zca, Zna] at H1
 refine Zm ?_
 refine Zx (Zx (Zg (Zg (Z02 (Z01 (Z03 (Z0c (Z03 (Z00 (Zm (Zm ?_)))))))))))
 refine Z1A rfl rfl underlying3 underlying104 rfl (Z0M ZO) ?_
 refine Z37 rfl rfl rfl rfl ZO (sh_Xi d) ?_
 refine Z0F rfl rfl rfl rfl (Z0h ZO) ?_
 refine Ze ?_
 refine Zm ?_
 apply Z13 2 [8, 10, 11] rfl rfl (.cons rfl (.cons rfl (.cons rfl (.cons rfl .nil)))) rfl rfl (fun _ => rfl) rfl rfl rfl
 ·intro hg6_7
  refine Zm ?_
  refine Ze ?_
  refine Z02 ?_
  exact Z0n rfl (.cons rfl (ZT hg6_7) (.cons rfl rfl (.cons rfl rfl (.cons rfl rfl .nil))))
 refine Zg (Z02 (Z01 ?_))
 (first | refine Z08 rfl ?_ ?_ | refine Z05 rfl ?_ ?_) <;> intro hc1
 ·refine Z03 (Z00 (Zg (Zg (Z02 (Z01 ?_)))))
  refine Zk [4, 5] ?_
  refine Z0f ?_
  refine Z0r ?_
  refine Z06 ?_
  refine Z0x results140 rfl rfl ?_
  refine ⟨_, rfl, ?_⟩
  refine ⟨?_, H1.grows⟩
  unfold clsF
  rw [Z53 hk hk0]
  unfold cls
  rw [if_neg ZO, if_neg ZO, if_neg ZO, if_pos ZO]
 refine Z03 (Z00 (Zm (Zm ?_)))
 refine Z1A rfl rfl underlying3 underlying104 rfl (Z0M ZO) ?_
 refine Z37 rfl rfl rfl rfl ZO (sh_Xi d) ?_
 refine Z0F rfl rfl rfl rfl (Z0h ZO) ?_
 refine Ze ?_
 refine Zg (Z02 (Z01 ?_))
 (first | refine Z08 rfl ?_ ?_ | refine Z05 rfl ?_ ?_) <;> intro hc2
 ·refine Z03 (Z00 (Zg (Zg (Z02 (Z01 ?_)))))
  refine Z0f ?_
  refine Z0r ?_
  refine Z06 ?_
  refine Z0x results140 rfl rfl ?_
  refine ⟨_, rfl, ?_⟩
  refine ⟨?_, H1.grows⟩
  unfold clsF
  rw [Z53 hk hk0]
  unfold cls
  rw [if_neg ZO, if_neg ZO, if_neg ZO, if_neg ZO]
 refine Z03 (Z00 (Zm ?_))
 refine Zw ?_
 refine Zg (Z02 (Z01 ?_))
 refine Zk [11, 48] ?_
 (first | refine Z08 rfl ?_ ?_ | refine Z05 rfl ?_ ?_) <;> intro hc3
 ·refine Z03 (Z00 (Zg (Zg (Z02 (Z01 ?_)))))
  refine Z0f ?_
  refine Z0r ?_
  refine Z06 ?_
  refine Z0x results140 rfl rfl ?_
  refine ⟨_, rfl, ?_⟩
  refine ⟨?_, H1.grows⟩
  unfold clsF
  rw [Z53 hk hk0]
  unfold cls
  rw [if_neg ZO, if_neg ZO, if_pos ZO]
 refine Z03 (Z00 (Zm ?_))
 refine Zw ?_
 refine Zg (Z02 (Z01 ?_))
 (first | refine Z08 rfl ?_ ?_ | refine Z05 rfl ?_ ?_) <;> intro hc4
 ·refine Z03 (Z00 (Zg (Zg (Z02 (Z01 ?_)))))
  refine Zk [4, 5] ?_
  refine Z0f ?_
  refine Z0r ?_
  refine Z06 ?_
  refine Z0x results140 rfl rfl ?_
  refine ⟨_, rfl, ?_⟩
  refine ⟨?_, H1.grows⟩
  unfold clsF
  rw [Z53 hk hk0]
  unfold cls
  rw [if_neg ZO, if_pos ZO]
 refine Z09 ?_
 refine Z0z ?_
 refine Z01 (Z03 (Z00 (Zg (Zg (Z02 (Z01 ?_))))))
 refine Z0f ?_
 refine Z0x results140 rfl rfl ?_
 refine ⟨_, rfl, ?_⟩
 refine ⟨?_, H1.grows⟩
 unfold clsF
 rw [Z53 hk hk0]
 unfold cls
 rw [if_pos ZO]
theorem finite3 (k : Int) (d : Kd) (hk : kd k = some d) (b : Int) (hb : 0 ≤ b ∧ b < 2 * d.S) (w : World) :
  Z0g P 81 [.int .i64 k, .int .u64 b] w fun r w' => r = .bool (decide (b % d.S < d.I)) ∧ Grow w w' [] := by
 refine Z0o func81 rfl ntmps81 rfl ?_
 have H0 := St.start w
 have hbd := d.bd
 have h9 := kd_9 hk
 have hms := mod_S d hb
 have hpt := Z5x d (s := b % d.S) ZO
 have hb3 : 0 ≤ b ∧ b ≤ 18446744073709551615 := by omega
 have hcl : clsF k b = (cls d b, 0) := Z53 hk (Z3L hk hb.2)
 refine Z03 (Z00 (Zg (Z02 (Z01 (Z03 (Z00 (Zm (Zm ?_))))))))
 refine Zc func140 (class3 k b hb3 w) ?_
 rintro _ w1 ⟨rfl, hG⟩
 have H1 := hG _ _ _ _ H0
 simp only [Zca, Zna] at H1
 refine Zm ?_
 refine Zx (Zx (Zg (Zg (Z02 (Z01 (Z03 (Z00 (Zm ?_))))))))
 refine Zh ?_
 refine Zm ?_
 apply Z13 2 [] rfl rfl (.cons rfl .nil) rfl rfl (fun _ => rfl) rfl rfl rfl
 ·intro hg2_3
  refine Zm ?_
  refine Zf ?_
  refine Z02 ?_
  exact Z0n rfl (.cons rfl (ZT hg2_3) .nil)
 refine Zg (Z02 (Z01 ?_))
 refine Zk [4] ?_
 refine Z0f ?_
 refine Z0l results81 rfl ?_
 refine ⟨_, rfl, ?_⟩
 refine ⟨?_, H1.grows⟩
 rw [hcl]
 refine congrArg Value.bool (decide_eq_decide.2 ?_)
 show (1 ≤ cls d b ∧ cls d b ≤ 3) ↔ _
 unfold cls
 repeat (split; · omega)
 omega
theorem Z5d (k : Int) (d : Kd) (hk : kd k = some d) (w : World) :
  Z0g P 37 [.int .i64 k] w fun r w' => r = .int .u64 (d.I - 1) ∧ w = w' := by
 refine Z0o func37 rfl ntmps37 rfl ?_
 have hbd := d.bd
 have h9 := kd_9 hk
 refine Z03 (Z00 (Zg (Z02 (Z01 (Z03 (Z03 (Z00 (Zm ?_))))))))
 refine Ze ?_
 refine Z02 (Z01 ?_)
 (first | refine Z08 rfl ?_ ?_ | refine Z05 rfl ?_ ?_) <;> intro hc0
 ·refine Z03 (Z00 (Zg (Z02 (Z01 ?_))))
  refine Zk [2] ?_
  refine Z0f ?_
  refine Z06 ?_
  refine Z0l results37 rfl ?_
  refine ⟨_, rfl, ?_⟩
  exact ⟨by rw [← h9.2.2.2.1, if_pos hc0], rfl⟩
 refine Z09 (Z01 (Z03 (Z00 (Zg (Z02 (Z01 ?_))))))
 refine Z0f ?_
 refine Z0l results37 rfl ?_
 refine ⟨_, rfl, ?_⟩
 exact ⟨by rw [← h9.2.2.2.1, if_neg hc0], rfl⟩
theorem split3 (k b : Int) (hb : 0 ≤ b ∧ b ≤ 18446744073709551615) (w : World) :
  Z0g P 36 [.int .i64 k, .int .u64 b] w fun r w' => r = .tuple #[.agg #[.bool (splF k b).1, .int .u64 (splF k b).2.1, .int .i64 (splF k b).2.2.1], .int .i64 (splF k b).2.2.2] ∧ Grow w w' [] := by
 refine Z0o func36 rfl ntmps36 rfl ?_
 have H0 := St.start w
 refine Z03 (Z00 ?_)
 refine Z0H H0 ta70 rfl rfl (fun b0_0 w1 H1 => ?_)
 refine Zg (Z02 (Z01 (Z03 (Z03 (Z00 (Zm (Zm ?_)))))))
 refine Zp func43 (check3 k b hb w1) ?_
 refine Zg (Z02 (Z01 (Z03 (Z00 (Zm ?_)))))
 refine Zo ?_
 refine Z02 (Z01 ?_)
 refine Zk [0, 1, 4, 6, 17] ?_
 (first | refine Z08 rfl ?_ ?_ | refine Z05 rfl ?_ ?_) <;> intro hc0
 ·refine Z03 (Z00 ?_)
  refine Z0Q rfl rfl pl70 ta70 .nil ?_
  refine Zm ?_
  refine Z0a H1 .head (.zero (.zero (.zero .nil))) rfl tz70 rfl rfl ZC (fun w2 H2 => ?_)
  refine Zg (Z02 (Z01 ?_))
  refine Z0f ?_
  refine Z06 ?_
  refine Z0p results36 (.cell rfl (Z0k H2 mem0 underlying70 rfl tz70 (.take (.take (.take .nil)))) (.tmp rfl .nil)) rfl ?_
  refine ⟨_, rfl, ?_⟩
  have H3 := St.del .head H2
  refine ⟨?_, H3.grows⟩
  unfold splF
  rw [ofk_bad hc0]
  all_goals rfl
 obtain ⟨d, hk, hlt⟩ := chk_ok (k := k) (b := b) ZO hb.2
 have hk0 := Z3L hk hlt
 have hb2 : 0 ≤ b ∧ b < 2 * d.S := ⟨hb.1, hlt⟩
 have hbd := d.bd
 have h9 := kd_9 hk
 have hms := mod_S d hb2
 have hpt := Z5x d (s := b % d.S) ZO
 have hXb : 256 ≤ d.X ∧ d.X ≤ 2048 := by cases d <;> decide
 refine Z09 (Z01 (Z03 (Z03 (Z00 (Zm (Zm ?_))))))
 refine Zc func81 (finite3 k d hk b hb2 w1) ?_
 rintro _ w4 ⟨rfl, hG⟩
 have H4 := hG _ _ _ _ H1
 simp only [Zca, Zna] at H4
 first | refine Z1c rfl rfl rfl ?_ | refine Z1N rfl rfl rfl ?_
 refine Z02 (Z01 ?_)
 refine Zk [0, 1, 4, 23] ?_
 (first | refine Z08 rfl ?_ ?_ | refine Z05 rfl ?_ ?_) <;> intro hc1
 ·refine Z03 (Z00 ?_)
  refine Z0Q rfl rfl pl70 ta70 .nil ?_
  refine Z0a H4 .head (.zero (.zero (.zero .nil))) rfl tz70 rfl rfl ZC (fun w5 H5 => ?_)
  refine Zg (Z02 (Z01 ?_))
  refine Z0f ?_
  refine Z06 ?_
  refine Z0p results36 (.cell rfl (Z0k H5 mem0 underlying70 rfl tz70 (.take (.take (.take .nil)))) (.tmp rfl .nil)) rfl ?_
  refine ⟨_, rfl, ?_⟩
  have H6 := St.del .head H5
  refine ⟨?_, H6.grows⟩
  unfold splF
  rw [Z53 hk hk0, if_pos ZO]
  all_goals rfl
 refine Z09 (Z01 (Z03 (Z00 (Zm ?_))))
 refine Zp func82 (shape3k hk w4) ?_
 refine Zm ?_
 refine Zx (Zx (Zx (Zg (Zg (Zg (Z02 (Z01 ?_)))))))
 refine Zk [0, 1, 4, 7, 8] ?_
 refine Z03 (Z00 (Zm (Zm ?_)))
 refine Zc func83 (parts3 k d hk b hb2 w4) ?_
 rintro _ w7 ⟨rfl, hG⟩
 have H7 := hG _ _ _ _ H4
 simp only [Zca, Zna] at H7
 refine Zm ?_
 refine Zx (Zx (Zg (Zg (Z02 (Z01 (Z03 (Z00 (Zm ?_))))))))
 refine Z0F rfl rfl rfl rfl (Z0h ZO) ?_
 refine Z1A rfl rfl underlying3 underlying104 rfl (Z0M ZO) ?_
 refine Z37 rfl rfl rfl rfl ZO (sh_Xh d) ?_
 refine Z0F rfl rfl rfl rfl (Z0h ZO) ?_
 refine Zm ?_
 refine Z0F rfl rfl rfl rfl (Z0h ZO) ?_
 refine Z0q (s := 43) (v' := .int .i64 (-(d.l : Int))) rfl (by rw [sh_least]) ?_
 refine Zg (Z02 (Z01 (Z03 (Z03 (Z00 (Zm ?_))))))
 refine Ze ?_
 refine Z02 (Z01 ?_)
 refine Zk [0, 1, 4, 7, 10, 11, 12, 45] ?_
 (first | refine Z08 rfl ?_ ?_ | refine Z05 rfl ?_ ?_) <;> intro hc2
 ·refine Z03 (Z00 (Zm (Zm ?_)))
  refine Zp func84 (sign3 k d hk w7) ?_
  refine Zh ?_
  refine Zm (Zm ?_)
  refine Z0Q rfl rfl pl70 ta70 (.one rfl rfl ZR .zero (.one rfl rfl ZR (.succ .zero) (.one rfl rfl ZR (.succ (.succ .zero)) .nil))) ?_
  refine Z0a H7 .head (.zero (.zero (.zero .nil))) rfl tz70 rfl rfl ZC (fun w8 H8 => ?_)
  refine Zg (Z02 (Z01 ?_))
  refine Z0f ?_
  refine Z06 ?_
  refine Z0p results36 (.cell rfl (Z0k H8 mem0 underlying70 rfl tz70 (.take (.take (.take .nil)))) (.tmp rfl .nil)) rfl ?_
  refine ⟨_, rfl, ?_⟩
  have H9 := St.del .head H8
  refine ⟨?_, H9.grows⟩
  unfold splF
  rw [Z53 hk hk0, if_neg ZO]
  unfold splM splE
  rw [if_pos ZO, if_pos ZO, hpt.2.2.2.2.2.2.2.2.1 ZO]
  all_goals rfl
 refine Z09 (Z01 (Z03 (Z00 (Zm (Zm ?_)))))
 refine Zp func84 (sign3 k d hk w7) ?_
 refine Zh ?_
 refine Zm (Zm ?_)
 refine Z1A rfl rfl underlying3 underlying104 rfl (Z0M ZO) ?_
 refine Z37 rfl rfl rfl rfl ZO (Z56 d) ?_
 refine Z0t rfl rfl rfl rfl (Z0M ZO) ?_
 refine Zm (Zm ?_)
 refine Z0t rfl rfl rfl rfl (Z0h ZO) ?_
 refine Z0F rfl rfl rfl rfl (Z0h ZO) ?_
 refine Z0Q rfl rfl pl70 ta70 (.one rfl rfl ZR .zero (.one rfl rfl ZR (.succ .zero) (.one rfl rfl ZR (.succ (.succ .zero)) .nil))) ?_
 refine Z0a H7 .head (.zero (.zero (.zero .nil))) rfl tz70 rfl rfl ZC (fun w10 H10 => ?_)
 refine Zg (Z02 (Z01 ?_))
 refine Zk [4, 5] ?_
 refine Z0f ?_
 refine Z0p results36 (.cell rfl (Z0k H10 mem0 underlying70 rfl tz70 (.take (.take (.take .nil)))) (.tmp rfl .nil)) rfl ?_
 refine ⟨_, rfl, ?_⟩
 have H11 := St.del .head H10
 refine ⟨?_, H11.grows⟩
 unfold splF
 rw [Z53 hk hk0, if_neg ZO]
 unfold splM splE
 rw [if_neg ZO, if_neg ZO, show -(d.l : Int) + (b % d.S / d.H - 1) = -(d.l : Int) + b % d.S / d.H - 1 by omega]
 all_goals rfl
theorem no3 (k : Int) (d : Kd) (hk : kd k = some d) (w : World) :
  Z0g P 96 [.int .i64 k] w fun r w' => r = .int .u64 (nanS d) ∧ w = w' := by
 refine Z0o func96 rfl ntmps96 rfl ?_
 have hbd := d.bd
 have h9 := kd_9 hk
 refine Z03 (Z00 (Zg (Z02 (Z01 (Z03 (Z03 (Z00 (Zm ?_))))))))
 refine Ze ?_
 refine Z02 (Z01 ?_)
 (first | refine Z08 rfl ?_ ?_ | refine Z05 rfl ?_ ?_) <;> intro hc0
 ·refine Z03 (Z00 (Zg (Z02 (Z01 ?_))))
  refine Zk [2] ?_
  refine Z0f ?_
  refine Z06 ?_
  refine Z0l results96 rfl ?_
  refine ⟨_, rfl, ?_⟩
  exact ⟨by rw [← h9.2.2.2.2, if_pos hc0], rfl⟩
 refine Z09 (Z01 (Z03 (Z00 (Zg (Z02 (Z01 ?_))))))
 refine Z0f ?_
 refine Z0l results96 rfl ?_
 refine ⟨_, rfl, ?_⟩
 exact ⟨by rw [← h9.2.2.2.2, if_neg hc0], rfl⟩
theorem inf3 (k : Int) (d : Kd) (hk : kd k = some d) (neg : Bool) (w : World) :
  Z0g P 95 [.int .i64 k, .bool neg] w fun r w' => r = .int .u64 (if neg then d.I + d.S else d.I) ∧ w = w' := by
 refine Z0o func95 rfl ntmps95 rfl ?_
 have hbd := d.bd
 have h9 := kd_9 hk
 refine Z03 (Z00 (Zg (Z02 (Z01 (Z03 (Z00 (Zm ?_)))))))
 refine Zp func37 (Z5d k d hk w) ?_
 refine Z0t rfl rfl rfl rfl (Z0M ZO) ?_
 refine Zg (Z02 (Z01 (Z03 (Z03 (Z00 (Zm (Z02 (Z01 ?_))))))))
 refine Zk [0, 5, 9] ?_
 (first | refine Z08 rfl ?_ ?_ | refine Z05 rfl ?_ ?_) <;> intro hc0
 ·refine Z00 (Zm (Zm ?_))
  refine Zp func84 (sign3 k d hk w) ?_
  refine Z0t rfl rfl rfl rfl (Z0M ZO) ?_
  refine Zg (Z02 (Z01 (Z03 (Z00 (Zm (Zg (Z02 (Z01 ?_))))))))
  refine Z0f ?_
  refine Z0l results95 rfl ?_
  refine ⟨_, rfl, ?_⟩
  exact ⟨by subst_vars; rw [show d.I - 1 + 1 = d.I by omega]; rfl, rfl⟩
 refine Z09 (Z01 ?_)
 refine Zk [5] ?_
 refine Z03 (Z00 (Zm (Zg (Z02 (Z01 ?_)))))
 refine Z0f ?_
 refine Z0l results95 rfl ?_
 refine ⟨_, rfl, ?_⟩
 exact ⟨by rw [show d.I - 1 + 1 = d.I by omega]; simp_all, rfl⟩
theorem cmpI_mul {a b p : Int} (hp : 0 < p) : cmpI (a * p) (b * p) = cmpI a b := by
 unfold cmpI
 have h1 : a * p < b * p ↔ a < b := Int.mul_lt_mul_right hp
 have h2 : b * p < a * p ↔ b < a := Int.mul_lt_mul_right hp
 simp only [h1, h2]
theorem Z5j {a b : Int} : cmpI a b ≤ 0 ↔ a ≤ b := by unfold cmpI; (repeat' split) <;> omega
theorem Z5k {a b : Int} : cmpI a b = 0 ↔ a = b := by unfold cmpI; (repeat' split) <;> omega
theorem Z5e {a b : Int} : cmpI a b < 0 ↔ a < b := by unfold cmpI; (repeat' split) <;> omega
theorem R16.lt16 {l : List Int} {n : Int} (h : R16 l n) : n < 2 ^ (16 * l.length) := by
 have h1 := Ma.vb_lt (show (0 : Int) < 65536 by omega) h.dg
 rw [h.val, show (65536 : Int) = 2 ^ 16 from rfl, ← Int.pow_mul] at h1
 exact h1
theorem R16.len_lt {l : List Int} {n : Int} (h : R16 l n) {k : Nat} (hb : n < 2 ^ k) : 16 * l.length ≤ k + 16 := h.len (k := k) ((Ma.blen_le_iff (h.nonneg (by omega)) k).2 hb)
theorem R16.len_mul {a b c : List Int} {x y : Int} (ha : R16 a x) (hb : R16 b y) (hc : R16 c (x * y)) : c.length ≤ a.length + b.length + 1 := by
 have h0 := hb.nonneg ZO
 have h1 : x * y ≤ x * 2 ^ (16 * b.length) := Int.mul_le_mul_of_nonneg_left (Int.le_of_lt hb.lt16) (ha.nonneg ZO)
 have h2 : x * 2 ^ (16 * b.length) < 2 ^ (16 * a.length) * 2 ^ (16 * b.length) := Int.mul_lt_mul_of_pos_right ha.lt16 (Ma.pow_pos ZO _)
 rw [← Int.pow_add] at h2
 have := hc.len_lt (k := 16 * a.length + 16 * b.length) ZO
 omega
theorem R16.len_left {a c : List Int} {x : Int} {N : Nat} (ha : R16 a x) (hc : R16 c (x * 2 ^ N)) : 16 * c.length ≤ 16 * a.length + N + 16 := by
 have h2 : x * 2 ^ N < 2 ^ (16 * a.length) * 2 ^ N := Int.mul_lt_mul_of_pos_right ha.lt16 (Ma.pow_pos ZO _)
 rw [← Int.pow_add] at h2
 exact hc.len_lt h2
theorem fv_spl (d : Kd) {b : Int} (hb : 0 ≤ b ∧ b < d.I) : 0 ≤ splE d b + d.l ∧ splE d b ≤ 1000 ∧ 0 ≤ splM d b ∧ splM d b ≤ 9007199254740992 ∧ fv d.H b = splM d b * 2 ^ (splE d b + d.l).toNat ∧ fv d.H (b + 1) = (splM d b + 1) * 2 ^ (splE d b + d.l).toNat := by
 have hbd := d.bd
 have hH53 : d.H ≤ 4503599627370496 := by cases d <;> decide
 have hm : b % d.S = b := Int.emod_eq_of_lt hb.1 ZO
 have hq := quo_H d hb.1 hb.2
 have hX : b / d.H - 1 - d.l ≤ 1000 := by
  cases d
  ·have h2 : b < 2139095040 := hb.2
   show b / 8388608 - 1 - 149 ≤ 1000; omega
  have h2 : b < 9218868437227405312 := hb.2
  show b / 4503599627370496 - 1 - 1074 ≤ 1000; omega
 have e := Int.emod_add_mul_ediv b d.H
 unfold splE splM
 rw [hm]
 by_cases h : b < d.H
 ·rw [if_pos h, if_pos h, show (-(d.l : Int) + d.l) = 0 by omega]
  have e1 := Z5l hbd.1 0 hb.1 ZO (.inl rfl)
  have e2 := Z5l (x := b + 1) hbd.1 0 ZO ZO (.inl rfl)
  rw [show ((0 : Nat) : Int) * d.H = 0 by simp, Int.add_zero] at e1 e2
  exact ⟨ZO, ZO, hb.1, ZO, e1, e2⟩
 rw [if_neg h, if_neg h]
 obtain ⟨u, hu⟩ : ∃ u : Nat, b / d.H = u + 1 := ⟨(b / d.H - 1).toNat, ZO⟩
 have hbu : b = (b % d.H + d.H) + u * d.H := by
  rw [hu, Int.mul_add, Int.mul_comm d.H u] at e; omega
 have e1 := Z5l (x := b % d.H + d.H) hbd.1 u ZO ZO (.inr ZO)
 have e2 := Z5l (x := b % d.H + d.H + 1) hbd.1 u ZO ZO (.inr ZO)
 rw [← hbu] at e1
 rw [show b % d.H + d.H + 1 + u * d.H = b + 1 by omega] at e2
 rw [show (-(d.l : Int) + (b / d.H - 1) + d.l).toNat = u by omega]
 exact ⟨ZO, ZO, ZO, ZO, e1, e2⟩
theorem Z55 {m n dd e : Int} {l : Nat} (hl : 0 ≤ e + l) : (if 0 ≤ e then cmpI (m * dd * 2 ^ e.toNat) n else cmpI (m * dd) (n * 2 ^ (0 - e).toNat)) = cmpI (m * 2 ^ (e + l).toNat * dd) (n * 2 ^ l) := by
 have hp : ∀ k : Nat, (0 : Int) < 2 ^ k := fun k => Ma.pow_pos ZO k
 split
 ·rename_i h
  rw [← cmpI_mul (hp l), show (e + l).toNat = e.toNat + l by omega, Int.pow_add, Int.mul_assoc, Int.mul_right_comm m]
 rename_i h
 rw [← cmpI_mul (hp (e + l).toNat), Int.mul_assoc n, ← Int.pow_add, show (0 - e).toNat + (e + l).toNat = l by omega, Int.mul_right_comm m]
theorem near_exact {d : Kd} {N D b : Int} (hD : 0 < D) (hb : 0 ≤ b ∧ b ≤ d.I - 1) (h : fv d.H b * D = N) : RndR d.H (d.I - 1) N D (b, true, 0) := by
 have hbd := d.bd
 have hI := d.I_lt
 have hl := Z5q hbd.1 hb.1
 have hlD := Int.mul_lt_mul_of_pos_right hl hD
 have hu : ¬ upR d.H N D b := by
  unfold upR
  rw [Int.add_mul]
  omega
 have := RndR.of hbd.1 hD ZO hI.2.1 hb.1 (Int.le_of_eq h) ZO
 rw [if_neg hu, if_pos ZO, decide_eq_true h] at this
 exact this
theorem near_up {d : Kd} {N D b : Int} (hD : 0 < D) (hb : 0 ≤ b ∧ b ≤ d.I - 1) (h : fv d.H b * D ≤ N) (h2 : b = d.I - 1 ∨ N < fv d.H (b + 1) * D) (hu : upR d.H N D b) :
  RndR d.H (d.I - 1) N D (if b = d.I - 1 then (0, false, 34) else (b + 1, false, 0)) := by
 have hbd := d.bd
 have hI := d.I_lt
 have hne : ¬ fv d.H b * D = N := by
  intro e
  have hlD := Int.mul_lt_mul_of_pos_right (Z5q hbd.1 hb.1) hD
  unfold upR at hu
  rw [Int.add_mul] at hu
  omega
 by_cases hg : b = d.I - 1
 ·rw [if_pos hg]
  subst hg
  refine .inl ⟨?_, rfl⟩
  unfold upR at hu
  omega
 rw [if_neg hg]
 have := RndR.of hbd.1 hD ZO hI.2.1 hb.1 h (h2.resolve_left hg)
 rw [if_pos hu, if_pos ZO, decide_eq_false hne] at this
 exact this
theorem near_down {d : Kd} {N D b : Int} (hD : 0 < D) (hb : 0 ≤ b ∧ b ≤ d.I - 1) (h : fv d.H b * D ≤ N) (h2 : b = d.I - 1 ∨ N < fv d.H (b + 1) * D) (hne : ¬ fv d.H b * D = N) (hu : ¬ upR d.H N D b) : RndR d.H (d.I - 1) N D (b, false, 0) := by
 have hbd := d.bd
 have hI := d.I_lt
 have h3 : N < fv d.H (b + 1) * D := by
  rcases h2 with h2 | h2
  ·have hlD := Int.mul_lt_mul_of_pos_right (Z5q hbd.1 hb.1) hD
   unfold upR at hu
   rw [Int.add_mul] at hu
   omega
  exact h2
 have := RndR.of hbd.1 hD ZO hI.2.1 hb.1 h h3
 rw [if_neg hu, if_pos ZO, decide_eq_false hne] at this
 exact this
theorem against3 (vm : Value) (lm : List Int) (m e : Int) (hRm : R16 lm m) (hLm : lm.length ≤ 4096) (he : -4000 ≤ e ∧ e ≤ 4000) (vn vd : Value) (ln ld : List Int) (n dd : Int) (hRn : R16 ln n) (hRd : R16 ld dd) (hLn : ln.length ≤ 4096) (hLd : ld.length ≤ 4096) (w : World) (hm : IV w vm (ints .i64 lm)) (hn : IV w vn (ints .i64 ln)) (hd : IV w vd (ints .i64 ld)) :
  Z0g P 154 [vm, .int .i64 e, vn, vd] w fun r w' => r = .int .i64 (if 0 ≤ e then cmpI (m * dd * 2 ^ e.toNat) n else cmpI (m * dd) (n * 2 ^ (0 - e).toNat)) ∧ Grow w w' [] := by
 refine Z0o func154 rfl ntmps154 rfl ?_
 have H0 := St.start w
 refine Z03 (Z00 (Zg (Z02 (Z01 (Z03 (Z00 (Zm (Zm ?_))))))))
 refine Z0N rfl rfl func34 rfl rfl (.cons rfl (.cons rfl .nil)) (Z5i _ _ _ _ _ _ hRm hRd ZO ZO w (H0.iarg hm) (H0.iarg hd)) ?_
 rintro vx w1 ⟨_, lx, rfl, hRx, hG⟩
 have H1 := hG _ _ _ _ H0
 simp only [Zca, Zna] at H1
 have hlx := hRm.len_mul hRd hRx
 refine Zg (Z02 (Z01 (Z03 (Z03 (Z00 (Zm ?_))))))
 refine Zh ?_
 refine Z02 (Z01 ?_)
 refine Zk [1, 2, 9, 14] ?_
 (first | refine Z08 rfl ?_ ?_ | refine Z05 rfl ?_ ?_) <;> intro hc0
 ·refine Z03 (Z00 (Zm (Zm ?_)))
  refine Z0q (s := 16) (v' := .int .i64 ((e.toNat : Nat) : Int)) rfl (by rw [Int.toNat_of_nonneg hc0]) ?_
  refine Z0N rfl rfl func86 rfl rfl (.cons rfl (.cons rfl .nil)) (leftR vx lx _ hRx ZO e.toNat ZO w1 (H1.io mem0)) ?_
  rintro vy w2 ⟨_, ly, rfl, hRy, hG⟩
  have H2 := hG _ _ _ _ H1
  simp only [Zca, Zna] at H2
  refine Zm ?_
  refine Z0N rfl rfl func85 rfl rfl (.cons rfl (.cons rfl .nil)) (cmpR _ _ _ _ _ _ hRy hRn (by have := hRx.len_left hRy; omega) ZO w2 (H2.io mem0) (H2.iarg hn)) ?_
  rintro _ w3 ⟨rfl, hG⟩
  have H3 := hG _ _ _ _ H2
  simp only [Zca, Zna] at H3
  refine Zg (Z02 (Z01 ?_))
  refine Z0f ?_
  refine Z06 ?_
  refine Z0l results154 rfl ?_
  refine ⟨_, rfl, ?_⟩
  have H5 := St.del .head (St.del (.tail .head) H3)
  exact ⟨by rw [if_pos hc0], H5.grows⟩
 refine Z09 (Z01 (Z03 (Z00 (Zm (Zm (Zm ?_))))))
 refine Z2u rfl rfl rfl (Z0h ZO) ?_
 refine Z0q (s := 23) (v' := .int .i64 (((0 - e).toNat : Nat) : Int)) rfl (by rw [Int.toNat_of_nonneg ZO]) ?_
 refine Z0N rfl rfl func86 rfl rfl (.cons rfl (.cons rfl .nil)) (leftR vn ln _ hRn ZO (0 - e).toNat ZO w1 (H1.iarg hn)) ?_
 rintro vy w6 ⟨_, ly, rfl, hRy, hG⟩
 have H6 := hG _ _ _ _ H1
 simp only [Zca, Zna] at H6
 refine Z0N rfl rfl func85 rfl rfl (.cons rfl (.cons rfl .nil)) (cmpR _ _ _ _ _ _ hRx hRy ZO (by have := hRn.len_left hRy; omega) w6 (H6.io mem1) (H6.io mem0)) ?_
 rintro _ w7 ⟨rfl, hG⟩
 have H7 := hG _ _ _ _ H6
 simp only [Zca, Zna] at H7
 refine Zg (Z02 (Z01 ?_))
 refine Zk [8] ?_
 refine Z0f ?_
 refine Z0l results154 rfl ?_
 refine ⟨_, rfl, ?_⟩
 have H9 := St.del .head (St.del (.tail .head) H7)
 exact ⟨by rw [if_neg hc0], H9.grows⟩
theorem Z3R (x : Int) : nv [x] = x := by show x + _ * 0 = x; omega
theorem Z5y {k b : Int} {d : Kd} (hk : kd k = some d) (hb : 0 ≤ b ∧ b < d.I) : splF k b = (false, splM d b, splE d b, 0) := by
 have hbd := d.bd
 unfold splF
 rw [Z53 hk (Z3L hk ZO), Int.emod_eq_of_lt hb.1 ZO, if_neg ZO, decide_eq_false ZO]
theorem split3f {k b : Int} {d : Kd} (hk : kd k = some d) (hb : 0 ≤ b ∧ b < d.I) (w : World) : Z0g P 36 [.int .i64 k, .int .u64 b] w fun r w' => r = .tuple #[.agg #[.bool false, .int .u64 (splM d b), .int .i64 (splE d b)], .int .i64 0] ∧ Grow w w' [] := by
 have hbd := d.bd
 refine (split3 k b ZO w).mono ?_
 rintro r w' ⟨rfl, hG⟩
 rw [Z5y hk hb]
 exact ⟨rfl, hG⟩
theorem at3 (k : Int) (d : Kd) (hk : kd k = some d) (b : Int) (hb : 0 ≤ b ∧ b < d.I) (vn vd : Value) (ln ld : List Int) (n dd : Int) (hRn : R16 ln n) (hRd : R16 ld dd) (hLn : ln.length ≤ 4096) (hLd : ld.length ≤ 4096) (w : World) (hn : IV w vn (ints .i64 ln)) (hd : IV w vd (ints .i64 ld)) :
  Z0g P 153 [.int .i64 k, .int .u64 b, vn, vd] w fun r w' => r = .int .i64 (cmpI (fv d.H b * dd) (n * 2 ^ d.l)) ∧ Grow w w' [] := by
 refine Z0o func153 rfl ntmps153 rfl ?_
 have H0 := St.start w
 have hbd := d.bd
 have h9 := kd_9 hk
 have hsp := Z5y hk hb
 have hfs := fv_spl d hb
 have hM64 : 0 ≤ splM d b ∧ splM d b ≤ 18446744073709551615 := by omega
 refine Z03 (Z00 (Zg (Z02 (Z01 (Z03 (Z00 (Zm (Zm ?_))))))))
 refine Zc func36 (split3f hk hb w) ?_
 rintro _ w1 ⟨rfl, hG⟩
 have H1 := hG _ _ _ _ H0
 simp only [Zca, Zna] at H1
 refine Zm ?_
 refine Zx (Zx ?_)
 refine Z0H H1 ta70 rfl rfl (fun b1_6 w2 H2 => ?_)
 refine Z0a H2 .head (.zero (.zero (.zero .nil))) rfl tz70 rfl rfl ZC (fun w3 H3 => ?_)
 refine Zg (Z02 (Z01 (Z03 ?_)))
 have H4 := H3.drewn
 refine Z2t (n := 10) [Zz,Zz,Zz,Zz,Zz,Zz,Zz,Zz,Zz,Zz] (fun wS => (As.blk b1_6 70 [.bool false, .int .u64 (splM d b), .int .i64 (splE d b)]).ok wS) ZK rfl rfl ?_
 apply Zu (L' := [Zy,Zz,Zz,Zz,Zz,Zz,Zz,Zz,Zz,Zz]) 0 (H4.ok mem0)
 ·intro wS sS
  refine Z0b Z54 rfl rfl rfl (Z02 ?_)
  exact Z0m rfl
 apply Zu (L' := [Zy,Zy,Zz,Zz,Zz,Zz,Zz,Zz,Zz,Zz]) 1 (H4.ok mem0)
 ·intro wS sS
  refine Z07 (Z1x sS) mem0 rfl rfl underlying30 rfl rfl rfl ?_
  refine Z02 ?_
  exact Z0m rfl
 apply Zu (L' := [Zy,Zy,Zz,Zz,Zy,Zz,Zz,Zz,Zz,Zz]) 4 (H4.ok mem0)
 ·intro wS sS
  refine Z0b Z58 rfl rfl rfl (Z02 ?_)
  exact Z0m rfl
 apply Zu (L' := [Zy,Zy,Zz,Zz,Zy,Zy,Zz,Zz,Zz,Zz]) 5 (H4.ok mem0)
 ·intro wS sS
  refine Z07 (Z1x sS) mem0 rfl rfl underlying3 rfl rfl rfl ?_
  refine Z02 ?_
  exact Z0m rfl
 apply Zu (L' := [Zy,Zy,Zz,Zz,Zy,Zy,Zy,Zz,Zz,Zz]) 6 (H4.ok mem0)
 ·intro wS sS
  refine Zm (Z02 ?_)
  exact Z0m rfl
 apply Zu (L' := [Zy,Zy,Zz,Zz,Zy,Zy,Zy,Zy,Zz,Zz]) 7 (H4.ok mem0)
 ·intro wS sS
  refine Zm (Z02 ?_)
  exact Z0m rfl
 refine Z0K (L' := [Zy,Zy,Zy,Zz,Zy,Zy,Zy,Zy,Zz,Zz]) 2 ZK rfl rfl ?_
 refine Z17 H4 rfl rfl underlying47 ti30 rfl (.cons rfl ZR .nil) rfl rfl rfl (fun b2_2 w5 H5 => ?_)
 refine Z02 ?_
 refine Z0D (H5.ok mem1) ?_
 refine Z0K (L' := [Zy,Zy,Zy,Zy,Zy,Zy,Zy,Zy,Zz,Zz]) 3 ZK rfl rfl ?_
 refine Z0N rfl rfl func76 rfl rfl (.cons rfl .nil) (numR _ [splM d b] (U.one hM64) (by simp) w5 (H5.ibl mem0)) ?_
 rintro vm w6 ⟨_, lm, rfl, hRm, hG⟩
 have H6 := hG _ _ _ _ H5
 simp only [Zca, Zna] at H6
 have hRm2 : R16 lm (splM d b) := by have := hRm; rw [show Ma.vb 18446744073709551616 [splM d b] = splM d b from Z3R _] at this; exact this
 refine Z02 ?_
 refine Z0D (H6.ok mem2) ?_
 refine Z0K (L' := [Zy,Zy,Zy,Zy,Zy,Zy,Zy,Zy,Zy,Zz]) 8 ZK rfl rfl ?_
 refine Zc func154 (against3 vm lm (splM d b) (splE d b) hRm2 (by have := R16.len_num (U.one hM64) hRm; simp at this; omega) ZO vn vd ln ld n dd hRn hRd hLn hLd w6 (H6.io mem0) (H6.iarg hn) (H6.iarg hd)) ?_
 rintro _ w7 ⟨rfl, hG⟩
 have H7 := hG _ _ _ _ H6
 simp only [Zca, Zna] at H7
 refine Z02 ?_
 refine Z0D (H7.ok mem2) ?_
 apply Zu (L' := [Zy,Zy,Zy,Zy,Zy,Zy,Zy,Zy,Zy,Zy]) 9 (H7.ok mem2)
 ·intro wS sS
  refine Zg (Z02 ?_)
  exact Z0m rfl
 refine Z14 ZK ?_
 refine Z01 ?_
 refine Zk [8] ?_
 refine Z0f ?_
 refine Z0l results153 rfl ?_
 refine ⟨_, rfl, ?_⟩
 have H10 := St.del .head (St.del (.tail .head) (St.del (.tail (.tail .head)) H7))
 refine ⟨?_, H10.grows⟩
 rw [Z55 hfs.1, hfs.2.2.2.2.1]
theorem near3 (k : Int) (d : Kd) (hk : kd k = some d) (vn vd : Value) (ln ld : List Int) (n dd : Int) (hRn : R16 ln n) (hRd : R16 ld dd) (hLn : ln.length ≤ 4096) (hLd : ld.length ≤ 4096) (hdp : 0 < dd) (hn0 : 0 ≤ n) (w : World) (hn : IV w vn (ints .i64 ln)) (hd : IV w vd (ints .i64 ld)) :
  Z0g P 103 [.int .i64 k, vn, vd] w fun r w' => ∃ t : Int × Bool × Int, r = .tuple #[.int .u64 t.1, .bool (decide (t.2.2 = 0)), .bool t.2.1] ∧ RndR d.H (d.I - 1) (n * 2 ^ d.l) dd t ∧ Grow w w' [] := by
 refine Z0o func103 rfl ntmps103 rfl ?_
 have H0 := St.start w
 have hbd := d.bd
 have h9 := kd_9 hk
 have hI := d.I_lt
 obtain ⟨N, hN⟩ : ∃ N, N = n * 2 ^ d.l := ⟨_, rfl⟩
 have hN0 : 0 ≤ N := by rw [hN]; exact Int.mul_nonneg hn0 (Int.le_of_lt (p2 _))
 refine Z03 (Z00 (Zg (Zg (Zg (Z02 (Z01 (Z03 (Z00 (Zm ?_)))))))))
 refine Zp func37 (Z5d k d hk w) ?_
 refine Zg (Zg (Z02 (Z01 ?_)))
 refine Zk [0, 1, 2, 9, 10] ?_
 refine Z0R (ι := Int) (fun (lo0 : Int) (w' : World) => St w w.heap.size Z0B ([]) w' ∧ fv d.H lo0 * dd ≤ N ∧ (lo0 = d.I - 1 ∨ lo0 = 0 ∧ N < fv d.H (d.I - 1) * dd)) (fun (lo0 : Int) => [(9, .int .u64 lo0)]) [0, 1, 2, 10] (.cons rfl (.cons rfl (.cons rfl (.cons rfl .nil)))) ?_ ?_
 ·refine Z03 (Z00 (Zm (Zm (Zm (Zm ?_)))))
  refine Zc func153 (at3 k d hk (d.I - 1) ZO vn vd ln ld n dd hRn hRd hLn hLd w (H0.iarg hn) (H0.iarg hd)) ?_
  rintro _ w1 ⟨rfl, hG⟩
  have H1 := hG _ _ _ _ H0
  simp only [Zca, Zna] at H1
  refine Zf ?_
  refine Z02 (Z01 ?_)
  refine Zk [0, 1, 2, 9, 10, 22] ?_
  (first | refine Z08 rfl ?_ ?_ | refine Z05 rfl ?_ ?_) <;> intro hc0
  ·refine Z00 (Zm (Zg (Z02 ?_)))
   refine Z0s (d.I - 1) ?_ (.cons rfl (.cons rfl (.cons rfl (.cons rfl .nil)))) ?_
   ·rw [← hN] at hc0
    exact ⟨H1, Z5j.1 hc0, .inl rfl⟩
   exact (.cons rfl ZN .nil)
  refine Z09 ?_
  refine Z0s (0) ?_ (.cons rfl (.cons rfl (.cons rfl (.cons rfl .nil)))) ?_
  ·rw [← hN] at hc0
   have hlt0 : ¬ fv d.H (d.I - 1) * dd ≤ N := fun h => hc0 (Z5j.2 h)
   exact ⟨H1, by rw [Z3o hbd.1, Int.zero_mul]; exact hN0, .inr ⟨rfl, ZO⟩⟩
  exact (.cons rfl ZN .nil)
 rintro lo0 w2 ⟨H2, hlo0, hlo1⟩
 show RunC P _ _ _ (_ :: _) _
 refine Z03 (Z0c ?_)
 refine Z0v (ι := Int × Int) (fun (z0 : Int × Int) => match z0 with | ⟨lo, hi⟩ => (hi - lo).toNat) (fun (z0 : Int × Int) (w' : World) => match z0 with | ⟨lo, hi⟩ => St w w.heap.size Z0B ([]) w' ∧ 0 ≤ lo ∧ lo ≤ hi ∧ hi ≤ d.I - 1 ∧ fv d.H lo * dd ≤ N ∧ (lo = hi ∧ lo = d.I - 1 ∨ lo < hi ∧ N < fv d.H hi * dd)) (fun (z0 : Int × Int) => match z0 with | ⟨lo, hi⟩ => [(9, .int .u64 lo), (10, .int .u64 hi)]) [0, 1, 2] (lo0, d.I - 1) ?_ (.cons rfl (.cons rfl (.cons rfl .nil))) ?_ ?_
 ·exact ⟨H2, ZO, ZO, ZO, hlo0, by rcases hlo1 with h | h; exact .inl ⟨h, h⟩; exact .inr ⟨ZO, h.2⟩⟩
 ·exact (.cons rfl ZN (.cons rfl ZN .nil))
 rintro ⟨lo, hi⟩ w3 ⟨H3, hl0, hlh, hhi, hlo, hcs⟩
 show RunC P _ _ _ (_ :: _) _
 refine Z03 (Z03 (Z00 (Zm (Zm ?_))))
 refine Z0F rfl rfl rfl rfl (Z0M ZO) ?_
 refine Zw ?_
 refine Z02 (Z01 ?_)
 (first | refine Z08 rfl ?_ ?_ | refine Z05 rfl ?_ ?_) <;> intro hc1
 ·refine Z09 (Z01 (Z0c (Z03 (Z00 (Zm (Zm (Zm ?_)))))))
  refine Z0F rfl rfl rfl rfl (Z0M ZO) ?_
  refine Z2W rfl rfl rfl rfl ZO (q_u64 ZO) ?_
  refine Z0t rfl rfl rfl rfl (Z0M ZO) ?_
  refine Zg (Z02 (Z01 ?_))
  refine Zk [0, 1, 2, 9, 10, 11] ?_
  refine Z03 (Z00 (Zm (Zm (Zm (Zm ?_)))))
  refine Zc func153 (at3 k d hk (lo + (hi - lo) / 2) ZO vn vd ln ld n dd hRn hRd hLn hLd w3 (H3.iarg hn) (H3.iarg hd)) ?_
  rintro _ w4 ⟨rfl, hG⟩
  have H4 := hG _ _ _ _ H3
  simp only [Zca, Zna] at H4
  refine Zf ?_
  refine Z02 (Z01 ?_)
  (first | refine Z08 rfl ?_ ?_ | refine Z05 rfl ?_ ?_) <;> intro hc2
  ·refine Z00 (Zm (Zg (Z02 ?_)))
   refine Z0z ?_
   refine Z0j (i := (lo, hi)) (lo + (hi - lo) / 2, hi) ?_ ?_ (.cons rfl (.cons rfl (.cons rfl .nil))) ?_
   ·first | omega | (simp; omega)
   ·rw [← hN] at hc2
    have hle := Z5j.1 hc2
    exact ⟨H4, ZO, ZO, ZO, hle, ZO⟩
   exact (.cons rfl ZN (.cons rfl ZN .nil))
  refine Z00 (Zm (Zg (Z02 ?_)))
  refine Z0z ?_
  refine Z0j (i := (lo, hi)) (lo, lo + (hi - lo) / 2) ?_ ?_ (.cons rfl (.cons rfl (.cons rfl .nil))) ?_
  ·first | omega | (simp; omega)
  ·rw [← hN] at hc2
   have hle : ¬ fv d.H (lo + (hi - lo) / 2) * dd ≤ N := fun h => hc2 (Z5j.2 h)
   exact ⟨H4, ZO, ZO, ZO, hlo, ZO⟩
  exact (.cons rfl ZN (.cons rfl ZN .nil))
 refine Z0y ?_
 refine Z04 ?_
 refine Z04 ?_
 refine Z0d ?_
 refine Z01 (Z03 (Z03 (Z00 ?_)))
 have h2 : lo = d.I - 1 ∨ N < fv d.H (lo + 1) * dd := by
  rcases hcs with h | h
  ·exact .inl h.2
  right; rw [show lo + 1 = hi by omega]; exact h.2
 have hsp := Z5y hk (b := lo) ZO
 have hfs := fv_spl d (b := lo) ZO
 have hM64 : 0 ≤ 2 * splM d lo + 1 ∧ 2 * splM d lo + 1 ≤ 18446744073709551615 := by omega
 refine Zm (Zm (Zm (Zm ?_)))
 refine Zc func153 (at3 k d hk (lo) ZO vn vd ln ld n dd hRn hRd hLn hLd w3 (H3.iarg hn) (H3.iarg hd)) ?_
 rintro _ w5 ⟨rfl, hG⟩
 have H5 := hG _ _ _ _ H3
 simp only [Zca, Zna] at H5
 refine Ze ?_
 refine Z02 (Z01 ?_)
 refine Zk [0, 1, 2, 9, 47] ?_
 (first | refine Z08 rfl ?_ ?_ | refine Z05 rfl ?_ ?_) <;> intro hc3
 ·refine Z03 (Z00 (Zm (Zg (Zg (Zg (Z02 (Z01 ?_)))))))
  refine Z0f ?_
  refine Z06 ?_
  refine Z0p results103 (.tmp rfl (.tmp rfl (.tmp rfl .nil))) rfl ?_
  refine ⟨_, rfl, ?_⟩
  refine ⟨(lo, true, 0), rfl, ?_, H5.grows⟩
  rw [← hN] at hc3 ⊢
  exact near_exact hdp ⟨hl0, ZO⟩ (Z5k.1 hc3)
 refine Z09 (Z01 (Z03 (Z00 (Zm (Zm ?_)))))
 refine Zc func36 (split3f hk (b := lo) ZO w5) ?_
 rintro _ w6 ⟨rfl, hG⟩
 have H6 := hG _ _ _ _ H5
 simp only [Zca, Zna] at H6
 refine Zm ?_
 refine Zx (Zx ?_)
 refine Z0H H6 ta70 rfl rfl (fun b11_6 w7 H7 => ?_)
 refine Z0a H7 .head (.zero (.zero (.zero .nil))) rfl tz70 rfl rfl ZC (fun w8 H8 => ?_)
 refine Zg (Z02 (Z01 ?_))
 refine Zk [0, 1, 2, 9, 12] ?_
 refine Z03 ?_
 have H9 := H8.drewn
 refine Z2t (n := 13) [Zz,Zz,Zz,Zz,Zz,Zz,Zz,Zz,Zz,Zz,Zz,Zz,Zz] (fun wS => (As.blk b11_6 70 [.bool false, .int .u64 (splM d lo), .int .i64 (splE d lo)]).ok wS) ZK rfl rfl ?_
 apply Zu (L' := [Zy,Zz,Zz,Zz,Zz,Zz,Zz,Zz,Zz,Zz,Zz,Zz,Zz]) 0 (H9.ok mem0)
 ·intro wS sS
  refine Z0b Z54 rfl rfl rfl (Z02 ?_)
  exact Z0m rfl
 apply Zu (L' := [Zy,Zy,Zz,Zz,Zz,Zz,Zz,Zz,Zz,Zz,Zz,Zz,Zz]) 1 (H9.ok mem0)
 ·intro wS sS
  refine Z07 (Z1x sS) mem0 rfl rfl underlying30 rfl rfl rfl ?_
  refine Z02 ?_
  exact Z0m rfl
 apply Zu (L' := [Zy,Zy,Zy,Zz,Zz,Zz,Zz,Zz,Zz,Zz,Zz,Zz,Zz]) 2 (H9.ok mem0)
 ·intro wS sS
  refine Z1m rfl rfl rfl rfl (Z0M ZO) ?_
  refine Z02 ?_
  exact Z0m rfl
 apply Zu (L' := [Zy,Zy,Zy,Zy,Zz,Zz,Zz,Zz,Zz,Zz,Zz,Zz,Zz]) 3 (H9.ok mem0)
 ·intro wS sS
  refine Z0t rfl rfl rfl rfl (Z0M ZO) ?_
  refine Z02 ?_
  exact Z0m rfl
 apply Zu (L' := [Zy,Zy,Zy,Zy,Zz,Zz,Zy,Zz,Zz,Zz,Zz,Zz,Zz]) 6 (H9.ok mem0)
 ·intro wS sS
  refine Z0b Z58 rfl rfl rfl (Z02 ?_)
  exact Z0m rfl
 apply Zu (L' := [Zy,Zy,Zy,Zy,Zz,Zz,Zy,Zy,Zz,Zz,Zz,Zz,Zz]) 7 (H9.ok mem0)
 ·intro wS sS
  refine Z07 (Z1x sS) mem0 rfl rfl underlying3 rfl rfl rfl ?_
  refine Z02 ?_
  exact Z0m rfl
 apply Zu (L' := [Zy,Zy,Zy,Zy,Zz,Zz,Zy,Zy,Zy,Zz,Zz,Zz,Zz]) 8 (H9.ok mem0)
 ·intro wS sS
  refine Z0F rfl rfl rfl rfl (Z0h ZO) ?_
  refine Z02 ?_
  exact Z0m rfl
 apply Zu (L' := [Zy,Zy,Zy,Zy,Zz,Zz,Zy,Zy,Zy,Zy,Zz,Zz,Zz]) 9 (H9.ok mem0)
 ·intro wS sS
  refine Zm (Z02 ?_)
  exact Z0m rfl
 apply Zu (L' := [Zy,Zy,Zy,Zy,Zz,Zz,Zy,Zy,Zy,Zy,Zy,Zz,Zz]) 10 (H9.ok mem0)
 ·intro wS sS
  refine Zm (Z02 ?_)
  exact Z0m rfl
 refine Z0K (L' := [Zy,Zy,Zy,Zy,Zy,Zz,Zy,Zy,Zy,Zy,Zy,Zz,Zz]) 4 ZK rfl rfl ?_
 refine Z17 H9 rfl rfl underlying47 ti30 rfl (.cons rfl ZR .nil) rfl rfl rfl (fun b12_4 w10 H10 => ?_)
 refine Z02 ?_
 refine Z0D (H10.ok mem1) ?_
 refine Z0K (L' := [Zy,Zy,Zy,Zy,Zy,Zy,Zy,Zy,Zy,Zy,Zy,Zz,Zz]) 5 ZK rfl rfl ?_
 refine Z0N rfl rfl func76 rfl rfl (.cons rfl .nil) (numR _ [2 * splM d lo + 1] (U.one hM64) (by simp) w10 (H10.ibl mem0)) ?_
 rintro vm w11 ⟨_, lm, rfl, hRm, hG⟩
 have H11 := hG _ _ _ _ H10
 simp only [Zca, Zna] at H11
 have hRm2 : R16 lm (2 * splM d lo + 1) := by have := hRm; rw [show Ma.vb 18446744073709551616 [2 * splM d lo + 1] = 2 * splM d lo + 1 from Z3R _] at this; exact this
 refine Z02 ?_
 refine Z0D (H11.ok mem2) ?_
 refine Z0K (L' := [Zy,Zy,Zy,Zy,Zy,Zy,Zy,Zy,Zy,Zy,Zy,Zy,Zz]) 11 ZK rfl rfl ?_
 refine Zc func154 (against3 vm lm (2 * splM d lo + 1) (splE d lo - 1) hRm2 (by have := R16.len_num (U.one hM64) hRm; simp at this; omega) ZO vn vd ln ld n dd hRn hRd hLn hLd w11 (H11.io mem0) (H11.iarg hn) (H11.iarg hd)) ?_
 rintro _ w12 ⟨rfl, hG⟩
 have H12 := hG _ _ _ _ H11
 simp only [Zca, Zna] at H12
 refine Z02 ?_
 refine Z0D (H12.ok mem2) ?_
 apply Zu (L' := [Zy,Zy,Zy,Zy,Zy,Zy,Zy,Zy,Zy,Zy,Zy,Zy,Zy]) 12 (H12.ok mem2)
 ·intro wS sS
  refine Zg (Z02 ?_)
  exact Z0m rfl
 refine Z14 ZK ?_
 refine Z01 (Z03 (Z03 (Z00 (Zm ?_))))
 refine Zl ?_
 refine Zm ?_
 apply l_or 7 [0, 9] rfl rfl (.cons rfl (.cons rfl (.cons rfl .nil))) rfl rfl (fun _ => rfl) rfl rfl rfl
 ·intro hg13_3
  refine Zm ?_
  refine Ze ?_
  refine Zm ?_
  apply Z13 3 [0, 9, 69] rfl rfl (.cons rfl (.cons rfl (.cons rfl (.cons rfl .nil)))) rfl rfl (fun _ => rfl) rfl rfl rfl
  ·intro hg13_6
   refine Zm ?_
   refine Z2x rfl rfl rfl rfl ZO (Z2P ZO) ?_
   refine Ze ?_
   refine Z02 ?_
   exact Z0n rfl (.cons rfl (ZT hg13_6) (.cons rfl rfl (.cons rfl rfl (.cons rfl rfl .nil))))
  refine Z02 ?_
  exact Z0n rfl (.cons rfl (ZF hg13_3) (.cons rfl rfl (.cons rfl rfl .nil)))
 refine Z02 (Z01 ?_)
 (first | refine Z08 rfl ?_ ?_ | refine Z05 rfl ?_ ?_) <;> intro hc4
 ·refine Z03 (Z03 (Z00 (Zm (Zm ?_))))
  refine Zp func37 (Z5d k d hk w12) ?_
  refine Ze ?_
  refine Z02 (Z01 ?_)
  refine Zk [9, 81] ?_
  (first | refine Z08 rfl ?_ ?_ | refine Z05 rfl ?_ ?_) <;> intro hc5
  ·refine Z03 (Z00 (Zg (Zg (Zg (Z02 (Z01 ?_))))))
   refine Z0f ?_
   refine Z06 ?_
   refine Z06 ?_
   refine Z0p results103 (.tmp rfl (.tmp rfl (.tmp rfl .nil))) rfl ?_
   refine ⟨_, rfl, ?_⟩
   have H15 := St.del .head (St.del (.tail .head) (St.del (.tail (.tail .head)) H12))
   have hhalf : (if 0 ≤ splE d lo - 1 then cmpI ((2 * splM d lo + 1) * dd * 2 ^ (splE d lo - 1).toNat) n else cmpI ((2 * splM d lo + 1) * dd) (n * 2 ^ (0 - (splE d lo - 1)).toNat)) = cmpI ((fv d.H lo + fv d.H (lo + 1)) * dd) (2 * N) := by
    rw [Z55 (l := d.l + 1) ZO, hfs.2.2.2.2.1, hfs.2.2.2.2.2, ← Int.add_mul, show splM d lo + (splM d lo + 1) = 2 * splM d lo + 1 by omega, show (splE d lo - 1 + ((d.l + 1 : Nat) : Int)).toNat = (splE d lo + d.l).toNat by omega, hN, Int.pow_succ, ← Int.mul_assoc, Int.mul_comm (n * 2 ^ d.l) 2]
   rw [hhalf] at hc4
   have hu : upR d.H N dd lo := by
    unfold upR
    rcases hc4 with h | h
    ·exact .inl (Z5e.1 h)
    exact .inr ⟨Z5k.1 h.1, h.2⟩
   refine ⟨(0, false, 34), rfl, ?_, H15.grows⟩
   have := near_up hdp ⟨hl0, ZO⟩ hlo h2 hu
   rw [if_pos hc5] at this
   rw [← hN]
   exact this
  refine Z09 (Z01 (Z03 (Z00 (Zm ?_))))
  refine Z0t rfl rfl rfl rfl (Z0M ZO) ?_
  refine Zg (Zg (Zg (Z02 (Z01 ?_))))
  refine Zk [6, 7, 8] ?_
  refine Z0f ?_
  refine Z06 ?_
  refine Z0p results103 (.tmp rfl (.tmp rfl (.tmp rfl .nil))) rfl ?_
  refine ⟨_, rfl, ?_⟩
  have H18 := St.del .head (St.del (.tail .head) (St.del (.tail (.tail .head)) H12))
  have hhalf : (if 0 ≤ splE d lo - 1 then cmpI ((2 * splM d lo + 1) * dd * 2 ^ (splE d lo - 1).toNat) n else cmpI ((2 * splM d lo + 1) * dd) (n * 2 ^ (0 - (splE d lo - 1)).toNat)) = cmpI ((fv d.H lo + fv d.H (lo + 1)) * dd) (2 * N) := by
   rw [Z55 (l := d.l + 1) ZO, hfs.2.2.2.2.1, hfs.2.2.2.2.2, ← Int.add_mul, show splM d lo + (splM d lo + 1) = 2 * splM d lo + 1 by omega, show (splE d lo - 1 + ((d.l + 1 : Nat) : Int)).toNat = (splE d lo + d.l).toNat by omega, hN, Int.pow_succ, ← Int.mul_assoc, Int.mul_comm (n * 2 ^ d.l) 2]
  rw [hhalf] at hc4
  have hu : upR d.H N dd lo := by
   unfold upR
   rcases hc4 with h | h
   ·exact .inl (Z5e.1 h)
   exact .inr ⟨Z5k.1 h.1, h.2⟩
  refine ⟨(lo + 1, false, 0), rfl, ?_, H18.grows⟩
  have := near_up hdp ⟨hl0, ZO⟩ hlo h2 hu
  rw [if_neg hc5] at this
  rw [← hN]
  exact this
 refine Z09 (Z01 (Z03 (Z00 (Zm (Zg (Zg (Zg (Z02 (Z01 ?_)))))))))
 refine Z0f ?_
 refine Z0p results103 (.tmp rfl (.tmp rfl (.tmp rfl .nil))) rfl ?_
 refine ⟨_, rfl, ?_⟩
 have H21 := St.del .head (St.del (.tail .head) (St.del (.tail (.tail .head)) H12))
 have hhalf : (if 0 ≤ splE d lo - 1 then cmpI ((2 * splM d lo + 1) * dd * 2 ^ (splE d lo - 1).toNat) n else cmpI ((2 * splM d lo + 1) * dd) (n * 2 ^ (0 - (splE d lo - 1)).toNat)) = cmpI ((fv d.H lo + fv d.H (lo + 1)) * dd) (2 * N) := by
  rw [Z55 (l := d.l + 1) ZO, hfs.2.2.2.2.1, hfs.2.2.2.2.2, ← Int.add_mul, show splM d lo + (splM d lo + 1) = 2 * splM d lo + 1 by omega, show (splE d lo - 1 + ((d.l + 1 : Nat) : Int)).toNat = (splE d lo + d.l).toNat by omega, hN, Int.pow_succ, ← Int.mul_assoc, Int.mul_comm (n * 2 ^ d.l) 2]
 rw [hhalf] at hc4
 refine ⟨(lo, false, 0), rfl, ?_, H21.grows⟩
 have hne : ¬ fv d.H lo * dd = N := fun h => hc3 (by rw [← hN]; exact Z5k.2 h)
 have hu : ¬ upR d.H N dd lo := fun h => hc4 (by unfold upR at h; rcases h with h | h; exact .inl (Z5e.2 h); exact .inr ⟨Z5k.2 h.1, h.2⟩)
 rw [← hN]
 exact near_down hdp ⟨hl0, ZO⟩ hlo h2 hne hu
theorem R16.one1 : R16 [1] 1 := ⟨fun x hx => by rw [List.mem_singleton.1 hx]; omega, ⟨fun _ => by omega, trivial⟩, by decide⟩
end Go.Proofs.YtjcbdogohjafdaaGreat.W
