/- walks of the document's bits: shapes, Class, Split, Next, Prev, Cmp -/
import Derived.Test.YtojjlipcjdaejaaGreatDoorVr
import Derived.Test.YtojjlipcjdaejaaGreatDoorGd
import Derived.Test.YtojjlipcjdaejaaGreatDoorGa
import Derived.Test.YtojjlipcjdaejaaGreatDoorFm
set_option linter.unusedVariables false
set_option linter.unusedSimpArgs false
set_option maxRecDepth 10000
namespace Go.Proofs.YtojjlipcjdaejaaGreatDoor.W
open Go.Vc Go.RowKit
def Kd.X : Kd → Int | .f32 => 256 | .f64 => 2048
theorem sh_X (d : Kd) : IntKind.u64.wrap (1 * 2 ^ (min ((d.A : Int) - d.M).toNat 64)) = d.X := by cases d <;> rfl
theorem sh_Xi (d : Kd) : IntKind.i64.wrap (1 * 2 ^ (min ((d.A : Int) - d.M).toNat 64)) = d.X := by cases d <;> rfl
theorem sh_Xh (d : Kd) : IntKind.i64.wrap (1 * 2 ^ (min ((d.A : Int) - d.M - 1).toNat 64)) = d.X / 2 := by cases d <;> rfl
theorem sh_least (d : Kd) : 2 - d.X / 2 - ((d.M : Int) - 1) = -(d.l : Int) := by cases d <;> rfl
theorem parts_d (d : Kd) {s : Int} (h : 0 ≤ s ∧ s < d.S) : 0 ≤ s / d.H ∧ s / d.H < d.X ∧ 0 ≤ s % d.H ∧ s % d.H < d.H ∧ ((s / d.H).tmod d.X = s / d.H) ∧ (s / d.H = d.X - 1 ↔ d.I ≤ s) ∧ (s = d.I ↔ s / d.H = d.X - 1 ∧ s % d.H = 0) ∧ (s / d.H = 0 ↔ s < d.H) ∧ (s < d.H → s % d.H = s) ∧ (s = 0 ↔ s / d.H = 0 ∧ s % d.H = 0) := by
 have key : 0 ≤ s / d.H ∧ s / d.H < d.X ∧ 0 ≤ s % d.H ∧ s % d.H < d.H ∧ (s / d.H = d.X - 1 ↔ d.I ≤ s) ∧ (s = d.I ↔ s / d.H = d.X - 1 ∧ s % d.H = 0) ∧ (s / d.H = 0 ↔ s < d.H) ∧ (s < d.H → s % d.H = s) ∧ (s = 0 ↔ s / d.H = 0 ∧ s % d.H = 0) := by
  cases d
  ·have h2 : s < 2147483648 := h.2
   show 0 ≤ s / 8388608 ∧ s / 8388608 < 256 ∧ 0 ≤ s % 8388608 ∧ s % 8388608 < 8388608 ∧ (s / 8388608 = 256 - 1 ↔ 2139095040 ≤ s) ∧ (s = 2139095040 ↔ s / 8388608 = 256 - 1 ∧ s % 8388608 = 0) ∧ (s / 8388608 = 0 ↔ s < 8388608) ∧ (s < 8388608 → s % 8388608 = s) ∧ (s = 0 ↔ s / 8388608 = 0 ∧ s % 8388608 = 0)
   omega
  ·have h2 : s < 9223372036854775808 := h.2
   show 0 ≤ s / 4503599627370496 ∧ s / 4503599627370496 < 2048 ∧ 0 ≤ s % 4503599627370496 ∧ s % 4503599627370496 < 4503599627370496 ∧ (s / 4503599627370496 = 2048 - 1 ↔ 9218868437227405312 ≤ s) ∧ (s = 9218868437227405312 ↔ s / 4503599627370496 = 2048 - 1 ∧ s % 4503599627370496 = 0) ∧ (s / 4503599627370496 = 0 ↔ s < 4503599627370496) ∧ (s < 4503599627370496 → s % 4503599627370496 = s) ∧ (s = 0 ↔ s / 4503599627370496 = 0 ∧ s % 4503599627370496 = 0)
   omega
 exact ⟨key.1, key.2.1, key.2.2.1, key.2.2.2.1, by rw [Int.tmod_eq_emod_of_nonneg key.1]; exact Int.emod_eq_of_lt key.1 key.2.1, key.2.2.2.2⟩
theorem kd_9 {k : Int} {d : Kd} (h : kd k = some d) : (if k = 9 then (23 : Int) else 52) = (d.M : Int) - 1 ∧ (if k = 9 then (8 : Int) else 11) = (d.A : Int) - d.M ∧ (if k = 9 then (2147483648 : Int) else 9223372036854775808) = d.S ∧ (if k = 9 then (2139095039 : Int) else 9218868437227405311) = d.I - 1 ∧ (if k = 9 then (2143289344 : Int) else 9221120237041090560) = nanS d := by
 rcases kd_some h with ⟨rfl, rfl⟩ | ⟨rfl, rfl⟩ <;> exact ⟨rfl, rfl, rfl, rfl, rfl⟩
theorem kd_is {k : Int} : (kd k).isSome = decide (k = 9 ∨ k = 10) := by
 unfold kd
 split
 ·rename_i h; rw [decide_eq_true (.inl h)]; rfl
 ·rename_i h
  split
  ·rename_i h2; rw [decide_eq_true (.inr h2)]; rfl
  ·rename_i h2; rw [decide_eq_false (fun h3 => h3.elim h h2)]; rfl
theorem quo_tmod {s y : Int} (hs : 0 ≤ s) : s.tmod y = s % y := Int.tmod_eq_emod_of_nonneg hs
theorem shape3 (k : Int) (w : World) :
  CallsV P 56 [.int .i64 k] w fun r w' => r = .tuple #[.int .i64 (if k = 9 then 23 else 52), .int .i64 (if k = 9 then 8 else 11), .bool (kd k).isSome] ∧ w = w' := by
 refine enterW Tryz.func56 rfl Tryz.ntmps56 rfl ?_
 refine c_seq (c_region (l_assign rfl rfl rfl (l_assign rfl rfl rfl (l_assign rfl rfl rfl (l_nil ?_)))))
 refine e_then ?_
 refine c_keep [0] (.cons rfl .nil) ?_
 refine c_seq (c_seq (c_region (l_move rfl rfl rfl ?_)))
 refine l_eql rfl rfl rfl rfl ?_
 refine l_nil (e_then ?_)
 refine c_keep [0, 6] (.cons rfl (.cons rfl .nil)) ?_
 first | refine c_cond rfl (fun hc0 => ?_) (fun hc0 => ?_) | refine c_condb rfl (fun hc0 => ?_) (fun hc0 => ?_)
 ·skip
  refine c_seq (c_region (l_assign rfl rfl rfl (l_assign rfl rfl rfl (l_assign rfl rfl rfl (l_nil ?_)))))
  refine e_then ?_
  refine c_keep [2, 3, 4] (.cons rfl (.cons rfl (.cons rfl .nil))) ?_
  refine c_ret ?_
  refine e_then_ret ?_
  refine e_doneN Tryz.results56 (.tmp rfl (.tmp rfl (.tmp rfl .nil))) rfl ?_
  refine ⟨_, rfl, ?_⟩
  exact ⟨by rw [if_pos hc0, if_pos hc0, kd_is, decide_eq_true (.inl hc0)], rfl⟩
 ·skip
  refine c_skip (e_then ?_)
  refine c_keep [0] (.cons rfl .nil) ?_
  refine c_seq (c_region (l_move rfl rfl rfl ?_))
  refine l_eql rfl rfl rfl rfl ?_
  refine l_assign rfl rfl rfl (l_assign rfl rfl rfl (l_assign rfl rfl rfl (l_nil (e_then ?_))))
  refine c_keep [2, 3, 4] (.cons rfl (.cons rfl (.cons rfl .nil))) ?_
  refine c_ret ?_
  refine e_doneN Tryz.results56 (.tmp rfl (.tmp rfl (.tmp rfl .nil))) rfl ?_
  refine ⟨_, rfl, ?_⟩
  exact ⟨by rw [if_neg hc0, if_neg hc0, kd_is, decide_eq_decide.2 (show (k = 9 ∨ k = 10) ↔ k = 10 from ⟨fun h => h.elim (fun h => absurd h hc0) id, .inr⟩)], rfl⟩
theorem shape3k {k : Int} {d : Kd} (hk : kd k = some d) (w : World) : CallsV P 56 [.int .i64 k] w fun r w' => r = .tuple #[.int .i64 ((d.M : Int) - 1), .int .i64 ((d.A : Int) - d.M), .bool true] ∧ w = w' := by
 have h9 := kd_9 hk
 refine (shape3 k w).mono ?_
 rintro r _ ⟨rfl, rfl⟩
 rw [h9.1, h9.2.1, hk]
 exact ⟨rfl, rfl⟩
theorem sign3 (k : Int) (d : Kd) (hk : kd k = some d) (w : World) :
  CallsV P 93 [.int .i64 k] w fun r w' => r = .int .u64 d.S ∧ w = w' := by
 refine enterW Tryz.func93 rfl Tryz.ntmps93 rfl ?_
 have hbd := d.bd
 have h9 := kd_9 hk
 refine c_seq (c_region (l_assign rfl rfl rfl (l_nil (e_then ?_))))
 refine c_keep [0] (.cons rfl .nil) ?_
 refine c_seq (c_seq (c_region (l_move rfl rfl rfl ?_)))
 refine l_eql rfl rfl rfl rfl ?_
 refine l_nil (e_then ?_)
 refine c_keep [4] (.cons rfl .nil) ?_
 first | refine c_cond rfl (fun hc0 => ?_) (fun hc0 => ?_) | refine c_condb rfl (fun hc0 => ?_) (fun hc0 => ?_)
 ·skip
  refine c_seq (c_region (l_assign rfl rfl rfl (l_nil (e_then ?_))))
  refine c_keep [2] (.cons rfl .nil) ?_
  refine c_ret ?_
  refine e_then_ret ?_
  refine e_done1 Tryz.results93 rfl ?_
  refine ⟨_, rfl, ?_⟩
  exact ⟨by rw [← h9.2.2.1, if_pos hc0], rfl⟩
 ·skip
  refine c_skip (e_then ?_)
  refine c_keep [] .nil ?_
  refine c_seq (c_region (l_assign rfl rfl rfl (l_nil (e_then ?_))))
  refine c_ret ?_
  refine e_done1 Tryz.results93 rfl ?_
  refine ⟨_, rfl, ?_⟩
  exact ⟨by rw [← h9.2.2.1, if_neg hc0], rfl⟩
theorem check3 (k b : Int) (hb : 0 ≤ b ∧ b ≤ 18446744073709551615) (w : World) :
  CallsV P 25 [.int .i64 k, .int .u64 b] w fun r w' => r = .int .i64 (chk k b) ∧ w = w' := by
 refine enterW Tryz.func25 rfl Tryz.ntmps25 rfl ?_
 refine c_seq (c_region (l_assign rfl rfl rfl (l_nil (e_then ?_))))
 refine c_keep [0, 1] (.cons rfl (.cons rfl .nil)) ?_
 refine c_seq (c_region (l_move rfl rfl rfl ?_))
 refine l_callp rfl rfl Tryz.func56 rfl rfl (.cons rfl .nil) (shape3 k w) ?_
 refine l_move rfl rfl rfl (l_extract rfl rfl rfl rfl (l_extract rfl rfl rfl rfl (l_extract rfl rfl rfl rfl (l_assign rfl rfl rfl (l_assign rfl rfl rfl ?_)))))
 refine l_assign rfl rfl rfl (l_nil (e_then ?_))
 refine c_keep [0, 1, 7] (.cons rfl (.cons rfl (.cons rfl .nil))) ?_
 refine c_seq (c_seq (c_region (l_move rfl rfl rfl ?_)))
 first | refine l_notd rfl rfl rfl ?_ | refine l_not rfl rfl rfl ?_
 refine l_nil (e_then ?_)
 refine c_keep [0, 1, 15] (.cons rfl (.cons rfl (.cons rfl .nil))) ?_
 first | refine c_cond rfl (fun hc0 => ?_) (fun hc0 => ?_) | refine c_condb rfl (fun hc0 => ?_) (fun hc0 => ?_)
 ·skip
  refine c_seq (c_region (l_assign rfl rfl rfl (l_nil (e_then ?_))))
  refine c_keep [4] (.cons rfl .nil) ?_
  refine c_ret ?_
  refine e_then_ret ?_
  refine e_done1 Tryz.results25 rfl ?_
  refine ⟨_, rfl, ?_⟩
  have hn : kd k = none := by
   cases h : kd k with
   | none => rfl
   | some d => rw [h] at hc0; simp at hc0
  exact ⟨by rw [chk_none hn], rfl⟩
 ·skip
  refine c_skip (e_then ?_)
  refine c_keep [0, 1] (.cons rfl (.cons rfl .nil)) ?_
  refine c_seq (c_seq (c_region (l_move rfl rfl rfl ?_)))
  refine l_eql rfl rfl rfl rfl ?_
  refine l_move rfl rfl rfl ?_
  apply l_and 2 [] rfl rfl (.cons rfl .nil) rfl rfl (fun _ => rfl) rfl rfl rfl
  ·intro hg4_3
   refine l_move rfl rfl rfl ?_
   refine l_geq rfl rfl rfl rfl ?_
   refine l_nil ?_
   exact e_stays rfl (.cons rfl (congrArg Value.bool (decide_eq_true hg4_3).symm) .nil)
  refine l_nil (e_then ?_)
  refine c_keep [21] (.cons rfl .nil) ?_
  first | refine c_cond rfl (fun hc1 => ?_) (fun hc1 => ?_) | refine c_condb rfl (fun hc1 => ?_) (fun hc1 => ?_)
  ·skip
   refine c_seq (c_region (l_assign rfl rfl rfl (l_nil (e_then ?_))))
   refine c_keep [4] (.cons rfl .nil) ?_
   refine c_ret ?_
   refine e_then_ret ?_
   refine e_done1 Tryz.results25 rfl ?_
   refine ⟨_, rfl, ?_⟩
   exact ⟨by unfold chk; rw [if_pos hc1.1, if_neg (by omega)], rfl⟩
  ·skip
   refine c_skip (e_then ?_)
   refine c_keep [] .nil ?_
   refine c_seq (c_region (l_assign rfl rfl rfl (l_nil (e_then ?_))))
   refine c_ret ?_
   refine e_done1 Tryz.results25 rfl ?_
   refine ⟨_, rfl, ?_⟩
   refine ⟨?_, rfl⟩
   obtain ⟨d, hd⟩ : ∃ d, kd k = some d := by
    cases h : kd k with
    | none => rw [h] at hc0; simp at hc0
    | some d => exact ⟨d, rfl⟩
   rcases kd_some hd with ⟨h9, rfl⟩ | ⟨h9, rfl⟩
   ·unfold chk; rw [if_pos h9, if_pos (by omega)]
   ·unfold chk; rw [if_neg (by omega), if_pos h9]
theorem parts3 (k : Int) (d : Kd) (hk : kd k = some d) (b : Int) (hb : 0 ≤ b ∧ b < 2 * d.S) (w : World) :
  CallsV P 94 [.int .i64 k, .int .u64 b] w fun r w' => r = .tuple #[.int .i64 (b % d.S / d.H), .int .u64 (b % d.S % d.H)] ∧ Grow w w' [] := by
 refine enterW Tryz.func94 rfl Tryz.ntmps94 rfl ?_
 have hw0 := St.start w
 have hbd := d.bd
 have h9 := kd_9 hk
 have hms := mod_S d hb
 have hpt := parts_d d (s := b % d.S) (by omega)
 have hXb : 256 ≤ d.X ∧ d.X ≤ 2048 := by cases d <;> decide
 refine c_seq (c_region (l_assign rfl rfl rfl (l_assign rfl rfl rfl (l_nil (e_then ?_)))))
 refine c_keep [0, 1] (.cons rfl (.cons rfl .nil)) ?_
 refine c_seq (c_region (l_move rfl rfl rfl ?_))
 refine l_callp rfl rfl Tryz.func56 rfl rfl (.cons rfl .nil) (shape3k hk w) ?_
 refine l_move rfl rfl rfl (l_extract rfl rfl rfl rfl (l_extract rfl rfl rfl rfl (l_extract rfl rfl rfl rfl (l_assign rfl rfl rfl (l_assign rfl rfl rfl ?_)))))
 refine l_assign rfl rfl rfl (l_nil (e_then ?_))
 refine c_keep [0, 1, 6, 7] (.cons rfl (.cons rfl (.cons rfl (.cons rfl .nil)))) ?_
 refine c_seq (c_region (l_move rfl rfl rfl (l_move rfl rfl rfl ?_)))
 refine l_callp rfl rfl Tryz.func93 rfl rfl (.cons rfl .nil) (sign3 k d hk w) ?_
 refine l_rem rfl rfl rfl rfl (by omega) (quo_tmod hb.1) ?_
 refine l_assign rfl rfl rfl (l_nil (e_then ?_))
 refine c_keep [1, 6, 7] (.cons rfl (.cons rfl (.cons rfl .nil))) ?_
 refine c_seq ?_
 have hw1 := hw0.drewn
 try clear hw0
 refine c_any (n := 16) [false, false, false, false, false, false, false, false, false, false, false, false, false, false, false, false] (fun wS => True) (by kernel_rfl) rfl rfl ?_
 apply a_take (L' := [true, false, false, false, false, false, false, false, false, false, false, false, false, false, false, false]) 0 rfl (by kernel_rfl) (by kernel_rfl) (by kernel_rfl) rfl rfl rfl rfl rfl (trivial)
 ·intro wS sS
  refine l_move rfl rfl rfl (l_nil ?_)
  exact e_got rfl
 apply a_take (L' := [true, true, false, false, false, false, false, false, false, false, false, false, false, false, false, false]) 1 rfl (by kernel_rfl) (by kernel_rfl) (by kernel_rfl) rfl rfl rfl rfl rfl (trivial)
 ·intro wS sS
  refine l_move rfl rfl rfl (l_nil ?_)
  exact e_got rfl
 apply a_take (L' := [true, true, true, false, false, false, false, false, false, false, false, false, false, false, false, false]) 2 rfl (by kernel_rfl) (by kernel_rfl) (by kernel_rfl) rfl rfl rfl rfl rfl (trivial)
 ·intro wS sS
  refine l_conv rfl rfl Tryz.underlying3 Tryz.underlying44 rfl (w_u64 (by omega)) ?_
  refine l_nil ?_
  exact e_got rfl
 apply a_take (L' := [true, true, true, true, false, false, false, false, false, false, false, false, false, false, false, false]) 3 rfl (by kernel_rfl) (by kernel_rfl) (by kernel_rfl) rfl rfl rfl rfl rfl (trivial)
 ·intro wS sS
  refine l_shr rfl rfl rfl rfl (by omega) (shr_H d (by omega)) ?_
  refine l_nil ?_
  exact e_got rfl
 apply a_take (L' := [true, true, true, true, true, false, false, false, false, false, false, false, false, false, false, false]) 4 rfl (by kernel_rfl) (by kernel_rfl) (by kernel_rfl) rfl rfl rfl rfl rfl (trivial)
 ·intro wS sS
  refine l_move rfl rfl rfl (l_nil ?_)
  exact e_got rfl
 apply a_take (L' := [true, true, true, true, true, true, false, false, false, false, false, false, false, false, false, false]) 5 rfl (by kernel_rfl) (by kernel_rfl) (by kernel_rfl) rfl rfl rfl rfl rfl (trivial)
 ·intro wS sS
  refine l_conv rfl rfl Tryz.underlying3 Tryz.underlying44 rfl (w_u64 (by omega)) ?_
  refine l_nil ?_
  exact e_got rfl
 apply a_take (L' := [true, true, true, true, true, true, true, false, false, false, false, false, false, false, false, false]) 6 rfl (by kernel_rfl) (by kernel_rfl) (by kernel_rfl) rfl rfl rfl rfl rfl (trivial)
 ·intro wS sS
  refine l_shl rfl rfl rfl rfl (by omega) (sh_X d) ?_
  refine l_nil ?_
  exact e_got rfl
 apply a_take (L' := [true, true, true, true, true, true, true, true, false, false, false, false, false, false, false, false]) 7 rfl (by kernel_rfl) (by kernel_rfl) (by kernel_rfl) rfl rfl rfl rfl rfl (trivial)
 ·intro wS sS
  refine l_rem rfl rfl rfl rfl (by omega) (hpt.2.2.2.2.1) ?_
  refine l_nil ?_
  exact e_got rfl
 apply a_take (L' := [true, true, true, true, true, true, true, true, true, false, false, false, false, false, false, false]) 8 rfl (by kernel_rfl) (by kernel_rfl) (by kernel_rfl) rfl rfl rfl rfl rfl (trivial)
 ·intro wS sS
  refine l_conv rfl rfl Tryz.underlying22 Tryz.underlying3 rfl (w_i64 (by omega)) ?_
  refine l_nil ?_
  exact e_got rfl
 apply a_take (L' := [true, true, true, true, true, true, true, true, true, true, false, false, false, false, false, false]) 9 rfl (by kernel_rfl) (by kernel_rfl) (by kernel_rfl) rfl rfl rfl rfl rfl (trivial)
 ·intro wS sS
  refine l_move rfl rfl rfl (l_nil ?_)
  exact e_got rfl
 apply a_take (L' := [true, true, true, true, true, true, true, true, true, true, true, false, false, false, false, false]) 10 rfl (by kernel_rfl) (by kernel_rfl) (by kernel_rfl) rfl rfl rfl rfl rfl (trivial)
 ·intro wS sS
  refine l_move rfl rfl rfl (l_nil ?_)
  exact e_got rfl
 apply a_take (L' := [true, true, true, true, true, true, true, true, true, true, true, true, false, false, false, false]) 11 rfl (by kernel_rfl) (by kernel_rfl) (by kernel_rfl) rfl rfl rfl rfl rfl (trivial)
 ·intro wS sS
  refine l_conv rfl rfl Tryz.underlying3 Tryz.underlying44 rfl (w_u64 (by omega)) ?_
  refine l_nil ?_
  exact e_got rfl
 apply a_take (L' := [true, true, true, true, true, true, true, true, true, true, true, true, true, false, false, false]) 12 rfl (by kernel_rfl) (by kernel_rfl) (by kernel_rfl) rfl rfl rfl rfl rfl (trivial)
 ·intro wS sS
  refine l_shl rfl rfl rfl rfl (by omega) (sh_half d) ?_
  refine l_nil ?_
  exact e_got rfl
 apply a_take (L' := [true, true, true, true, true, true, true, true, true, true, true, true, true, true, false, false]) 13 rfl (by kernel_rfl) (by kernel_rfl) (by kernel_rfl) rfl rfl rfl rfl rfl (trivial)
 ·intro wS sS
  refine l_rem rfl rfl rfl rfl (by omega) (quo_tmod (by omega)) ?_
  refine l_nil ?_
  exact e_got rfl
 apply a_take (L' := [true, true, true, true, true, true, true, true, true, true, true, true, true, true, true, false]) 14 rfl (by kernel_rfl) (by kernel_rfl) (by kernel_rfl) rfl rfl rfl rfl rfl (trivial)
 ·intro wS sS
  refine l_assign rfl rfl rfl (l_nil ?_)
  exact e_got rfl
 apply a_take (L' := [true, true, true, true, true, true, true, true, true, true, true, true, true, true, true, true]) 15 rfl (by kernel_rfl) (by kernel_rfl) (by kernel_rfl) rfl rfl rfl rfl rfl (trivial)
 ·intro wS sS
  refine l_assign rfl rfl rfl (l_nil ?_)
  exact e_got rfl
 refine a_done (by kernel_rfl) ?_
 refine e_then ?_
 refine c_keep [4, 5] (.cons rfl (.cons rfl .nil)) ?_
 refine c_ret ?_
 refine e_done2 Tryz.results94 rfl rfl ?_
 refine ⟨_, rfl, ?_⟩
 exact ⟨rfl, hw1.grows⟩
theorem class3 (k b : Int) (hb : 0 ≤ b ∧ b ≤ 18446744073709551615) (w : World) :
  CallsV P 58 [.int .i64 k, .int .u64 b] w fun r w' => r = .tuple #[.int .i64 (clsF k b).1, .int .i64 (clsF k b).2] ∧ Grow w w' [] := by
 refine enterW Tryz.func58 rfl Tryz.ntmps58 rfl ?_
 have hw0 := St.start w
 refine c_seq (c_region (l_assign rfl rfl rfl (l_assign rfl rfl rfl (l_nil (e_then ?_)))))
 refine c_keep [0, 1] (.cons rfl (.cons rfl .nil)) ?_
 refine c_seq (c_seq (c_region (l_move rfl rfl rfl (l_move rfl rfl rfl ?_))))
 refine l_callp rfl rfl Tryz.func25 rfl rfl (.cons rfl (.cons rfl .nil)) (check3 k b hb w) ?_
 refine l_assign rfl rfl rfl (l_nil (e_then ?_))
 refine c_keep [0, 1, 6] (.cons rfl (.cons rfl (.cons rfl .nil))) ?_
 refine c_seq (c_region (l_move rfl rfl rfl ?_))
 refine l_neq rfl rfl rfl rfl ?_
 refine l_nil (e_then ?_)
 refine c_keep [0, 1, 6, 16] (.cons rfl (.cons rfl (.cons rfl (.cons rfl .nil)))) ?_
 first | refine c_cond rfl (fun hc0 => ?_) (fun hc0 => ?_) | refine c_condb rfl (fun hc0 => ?_) (fun hc0 => ?_)
 ·skip
  refine c_seq (c_region (l_move rfl rfl rfl (l_assign rfl rfl rfl (l_assign rfl rfl rfl (l_nil ?_)))))
  refine e_then ?_
  refine c_keep [4, 5] (.cons rfl (.cons rfl .nil)) ?_
  refine c_ret ?_
  refine e_then_ret ?_
  refine e_done2 Tryz.results58 rfl rfl ?_
  refine ⟨_, rfl, ?_⟩
  refine ⟨?_, hw0.grows⟩
  unfold clsF
  rw [ofk_bad hc0]
  all_goals rfl
 ·skip
  obtain ⟨d, hk, hlt⟩ := chk_ok (k := k) (b := b) (by omega) hb.2
  have hk0 := chk_some hk hlt
  have hb2 : 0 ≤ b ∧ b < 2 * d.S := ⟨hb.1, hlt⟩
  have hbd := d.bd
  have h9 := kd_9 hk
  have hms := mod_S d hb2
  have hpt := parts_d d (s := b % d.S) (by omega)
  have hXb : 256 ≤ d.X ∧ d.X ≤ 2048 := by cases d <;> decide
  refine c_skip (e_then ?_)
  refine c_keep [0, 1] (.cons rfl (.cons rfl .nil)) ?_
  refine c_seq (c_region (l_move rfl rfl rfl ?_))
  refine l_callp rfl rfl Tryz.func56 rfl rfl (.cons rfl .nil) (shape3k hk w) ?_
  refine l_move rfl rfl rfl (l_extract rfl rfl rfl rfl (l_extract rfl rfl rfl rfl (l_extract rfl rfl rfl rfl (l_assign rfl rfl rfl (l_assign rfl rfl rfl ?_)))))
  refine l_assign rfl rfl rfl (l_nil (e_then ?_))
  refine c_keep [0, 1, 8] (.cons rfl (.cons rfl (.cons rfl .nil))) ?_
  refine c_seq (c_region (l_move rfl rfl rfl (l_move rfl rfl rfl ?_)))
  refine l_call rfl rfl Tryz.func94 rfl rfl (.cons rfl (.cons rfl .nil)) (parts3 k d hk b hb2 w) ?_
  rintro _ w1 ⟨rfl, hG⟩
  have hw1 := hG _ _ _ _ hw0
  try clear hG hw0
  simp only [List.cons_append, List.nil_append] at hw1
  refine l_move rfl rfl rfl (l_extract rfl rfl rfl rfl (l_extract rfl rfl rfl rfl (l_assign rfl rfl rfl (l_assign rfl rfl rfl (l_nil ?_)))))
  refine e_then ?_
  refine c_keep [8, 10, 11] (.cons rfl (.cons rfl (.cons rfl .nil))) ?_
  refine c_seq (c_block (c_seq (c_region (l_move rfl rfl rfl (l_move rfl rfl rfl ?_)))))
  refine l_conv rfl rfl Tryz.underlying3 Tryz.underlying44 rfl (w_u64 (by omega)) ?_
  refine l_shl rfl rfl rfl rfl (by omega) (sh_Xi d) ?_
  refine l_sub rfl rfl rfl rfl (w_i64 (by omega)) ?_
  refine l_eql rfl rfl rfl rfl ?_
  refine l_move rfl rfl rfl ?_
  apply l_and 2 [8, 10, 11] rfl rfl (.cons rfl (.cons rfl (.cons rfl (.cons rfl .nil)))) rfl rfl (fun _ => rfl) rfl rfl rfl
  ·intro hg6_7
   refine l_move rfl rfl rfl ?_
   refine l_eql rfl rfl rfl rfl ?_
   refine l_nil ?_
   exact e_stays rfl (.cons rfl (congrArg Value.bool (decide_eq_true hg6_7).symm) (.cons rfl rfl (.cons rfl rfl (.cons rfl rfl .nil))))
  refine l_assign rfl rfl rfl (l_nil (e_then ?_))
  refine c_keep [8, 10, 11, 30] (.cons rfl (.cons rfl (.cons rfl (.cons rfl .nil)))) ?_
  first | refine c_cond rfl (fun hc1 => ?_) (fun hc1 => ?_) | refine c_condb rfl (fun hc1 => ?_) (fun hc1 => ?_)
  ·skip
   refine c_seq (c_region (l_assign rfl rfl rfl (l_assign rfl rfl rfl (l_nil (e_then ?_)))))
   refine c_keep [4, 5] (.cons rfl (.cons rfl .nil)) ?_
   refine c_ret ?_
   refine e_blk_ret ?_
   refine e_then_ret ?_
   refine e_done2 Tryz.results58 rfl rfl ?_
   refine ⟨_, rfl, ?_⟩
   refine ⟨?_, hw1.grows⟩
   unfold clsF
   rw [ofk_ok hk hk0]
   unfold cls
   rw [if_neg (by omega), if_neg (by omega), if_neg (by omega), if_pos (by omega)]
  ·skip
   refine c_seq (c_region (l_move rfl rfl rfl (l_move rfl rfl rfl ?_)))
   refine l_conv rfl rfl Tryz.underlying3 Tryz.underlying44 rfl (w_u64 (by omega)) ?_
   refine l_shl rfl rfl rfl rfl (by omega) (sh_Xi d) ?_
   refine l_sub rfl rfl rfl rfl (w_i64 (by omega)) ?_
   refine l_eql rfl rfl rfl rfl ?_
   refine l_assign rfl rfl rfl (l_nil (e_then ?_))
   refine c_keep [10, 11, 41] (.cons rfl (.cons rfl (.cons rfl .nil))) ?_
   first | refine c_cond rfl (fun hc2 => ?_) (fun hc2 => ?_) | refine c_condb rfl (fun hc2 => ?_) (fun hc2 => ?_)
   ·skip
    refine c_seq (c_region (l_assign rfl rfl rfl (l_assign rfl rfl rfl (l_nil (e_then ?_)))))
    refine c_keep [4, 5] (.cons rfl (.cons rfl .nil)) ?_
    refine c_ret ?_
    refine e_blk_ret ?_
    refine e_then_ret ?_
    refine e_done2 Tryz.results58 rfl rfl ?_
    refine ⟨_, rfl, ?_⟩
    refine ⟨?_, hw1.grows⟩
    unfold clsF
    rw [ofk_ok hk hk0]
    unfold cls
    rw [if_neg (by omega), if_neg (by omega), if_neg (by omega), if_neg (by omega)]
   ·skip
    refine c_seq (c_region (l_move rfl rfl rfl ?_))
    refine l_gtr rfl rfl rfl rfl ?_
    refine l_assign rfl rfl rfl (l_nil (e_then ?_))
    refine c_keep [11, 48] (.cons rfl (.cons rfl .nil)) ?_
    first | refine c_cond rfl (fun hc3 => ?_) (fun hc3 => ?_) | refine c_condb rfl (fun hc3 => ?_) (fun hc3 => ?_)
    ·skip
     refine c_seq (c_region (l_assign rfl rfl rfl (l_assign rfl rfl rfl (l_nil (e_then ?_)))))
     refine c_keep [4, 5] (.cons rfl (.cons rfl .nil)) ?_
     refine c_ret ?_
     refine e_blk_ret ?_
     refine e_then_ret ?_
     refine e_done2 Tryz.results58 rfl rfl ?_
     refine ⟨_, rfl, ?_⟩
     refine ⟨?_, hw1.grows⟩
     unfold clsF
     rw [ofk_ok hk hk0]
     unfold cls
     rw [if_neg (by omega), if_neg (by omega), if_pos (by omega)]
    ·skip
     refine c_seq (c_region (l_move rfl rfl rfl ?_))
     refine l_gtr rfl rfl rfl rfl ?_
     refine l_assign rfl rfl rfl (l_nil (e_then ?_))
     refine c_keep [51] (.cons rfl .nil) ?_
     first | refine c_cond rfl (fun hc4 => ?_) (fun hc4 => ?_) | refine c_condb rfl (fun hc4 => ?_) (fun hc4 => ?_)
     ·skip
      refine c_seq (c_region (l_assign rfl rfl rfl (l_assign rfl rfl rfl (l_nil (e_then ?_)))))
      refine c_keep [4, 5] (.cons rfl (.cons rfl .nil)) ?_
      refine c_ret ?_
      refine e_blk_ret ?_
      refine e_then_ret ?_
      refine e_done2 Tryz.results58 rfl rfl ?_
      refine ⟨_, rfl, ?_⟩
      refine ⟨?_, hw1.grows⟩
      unfold clsF
      rw [ofk_ok hk hk0]
      unfold cls
      rw [if_neg (by omega), if_pos (by omega)]
     ·skip
      refine c_skip ?_
      refine e_blk ?_
      refine e_then ?_
      refine c_keep [] .nil ?_
      refine c_seq (c_region (l_assign rfl rfl rfl (l_assign rfl rfl rfl (l_nil (e_then ?_)))))
      refine c_ret ?_
      refine e_done2 Tryz.results58 rfl rfl ?_
      refine ⟨_, rfl, ?_⟩
      refine ⟨?_, hw1.grows⟩
      unfold clsF
      rw [ofk_ok hk hk0]
      unfold cls
      rw [if_pos (by omega)]
theorem finite3 (k : Int) (d : Kd) (hk : kd k = some d) (b : Int) (hb : 0 ≤ b ∧ b < 2 * d.S) (w : World) :
  CallsV P 107 [.int .i64 k, .int .u64 b] w fun r w' => r = .bool (decide (b % d.S < d.I)) ∧ Grow w w' [] := by
 refine enterW Tryz.func107 rfl Tryz.ntmps107 rfl ?_
 have hw0 := St.start w
 have hbd := d.bd
 have h9 := kd_9 hk
 have hms := mod_S d hb
 have hpt := parts_d d (s := b % d.S) (by omega)
 have hb3 : 0 ≤ b ∧ b ≤ 18446744073709551615 := by omega
 have hcl : clsF k b = (cls d b, 0) := ofk_ok hk (chk_some hk hb.2)
 refine c_seq (c_region (l_assign rfl rfl rfl (l_nil (e_then ?_))))
 refine c_keep [0, 1] (.cons rfl (.cons rfl .nil)) ?_
 refine c_seq (c_region (l_move rfl rfl rfl (l_move rfl rfl rfl ?_)))
 refine l_call rfl rfl Tryz.func58 rfl rfl (.cons rfl (.cons rfl .nil)) (class3 k b hb3 w) ?_
 rintro _ w1 ⟨rfl, hG⟩
 have hw1 := hG _ _ _ _ hw0
 try clear hG hw0
 simp only [List.cons_append, List.nil_append] at hw1
 refine l_move rfl rfl rfl (l_extract rfl rfl rfl rfl (l_extract rfl rfl rfl rfl (l_assign rfl rfl rfl (l_assign rfl rfl rfl (l_nil ?_)))))
 refine e_then ?_
 refine c_keep [5] (.cons rfl .nil) ?_
 refine c_seq (c_region (l_move rfl rfl rfl ?_))
 refine l_geq rfl rfl rfl rfl ?_
 refine l_move rfl rfl rfl ?_
 apply l_and 2 [] rfl rfl (.cons rfl .nil) rfl rfl (fun _ => rfl) rfl rfl rfl
 ·intro hg2_3
  refine l_move rfl rfl rfl ?_
  refine l_leq rfl rfl rfl rfl ?_
  refine l_nil ?_
  exact e_stays rfl (.cons rfl (congrArg Value.bool (decide_eq_true hg2_3).symm) .nil)
 refine l_assign rfl rfl rfl (l_nil (e_then ?_))
 refine c_keep [4] (.cons rfl .nil) ?_
 refine c_ret ?_
 refine e_done1 Tryz.results107 rfl ?_
 refine ⟨_, rfl, ?_⟩
 refine ⟨?_, hw1.grows⟩
 rw [hcl]
 refine congrArg Value.bool (decide_eq_decide.2 ?_)
 show (1 ≤ cls d b ∧ cls d b ≤ 3) ↔ _
 unfold cls
 repeat (split; · omega)
 omega
theorem greatest3 (k : Int) (d : Kd) (hk : kd k = some d) (w : World) :
  CallsV P 92 [.int .i64 k] w fun r w' => r = .int .u64 (d.I - 1) ∧ w = w' := by
 refine enterW Tryz.func92 rfl Tryz.ntmps92 rfl ?_
 have hbd := d.bd
 have h9 := kd_9 hk
 refine c_seq (c_region (l_assign rfl rfl rfl (l_nil (e_then ?_))))
 refine c_keep [0] (.cons rfl .nil) ?_
 refine c_seq (c_seq (c_region (l_move rfl rfl rfl ?_)))
 refine l_eql rfl rfl rfl rfl ?_
 refine l_nil (e_then ?_)
 refine c_keep [4] (.cons rfl .nil) ?_
 first | refine c_cond rfl (fun hc0 => ?_) (fun hc0 => ?_) | refine c_condb rfl (fun hc0 => ?_) (fun hc0 => ?_)
 ·skip
  refine c_seq (c_region (l_assign rfl rfl rfl (l_nil (e_then ?_))))
  refine c_keep [2] (.cons rfl .nil) ?_
  refine c_ret ?_
  refine e_then_ret ?_
  refine e_done1 Tryz.results92 rfl ?_
  refine ⟨_, rfl, ?_⟩
  exact ⟨by rw [← h9.2.2.2.1, if_pos hc0], rfl⟩
 ·skip
  refine c_skip (e_then ?_)
  refine c_keep [] .nil ?_
  refine c_seq (c_region (l_assign rfl rfl rfl (l_nil (e_then ?_))))
  refine c_ret ?_
  refine e_done1 Tryz.results92 rfl ?_
  refine ⟨_, rfl, ?_⟩
  exact ⟨by rw [← h9.2.2.2.1, if_neg hc0], rfl⟩
theorem split3 (k b : Int) (hb : 0 ≤ b ∧ b ≤ 18446744073709551615) (w : World) :
  CallsV P 75 [.int .i64 k, .int .u64 b] w fun r w' => r = .tuple #[.agg #[.bool (splF k b).1, .int .u64 (splF k b).2.1, .int .i64 (splF k b).2.2.1], .int .i64 (splF k b).2.2.2] ∧ Grow w w' [] := by
 refine enterW Tryz.func75 rfl Tryz.ntmps75 rfl ?_
 have hw0 := St.start w
 refine c_seq (c_region ?_)
 refine l_alloc hw0 ta47 rfl rfl (fun b0_0 w1 hw1 => ?_)
 try clear hw0
 refine l_assign rfl rfl rfl (l_nil (e_then ?_))
 refine c_keep [0, 1, 4] (.cons rfl (.cons rfl (.cons rfl .nil))) ?_
 refine c_seq (c_seq (c_region (l_move rfl rfl rfl (l_move rfl rfl rfl ?_))))
 refine l_callp rfl rfl Tryz.func25 rfl rfl (.cons rfl (.cons rfl .nil)) (check3 k b hb w1) ?_
 refine l_assign rfl rfl rfl (l_nil (e_then ?_))
 refine c_keep [0, 1, 4, 6] (.cons rfl (.cons rfl (.cons rfl (.cons rfl .nil)))) ?_
 refine c_seq (c_region (l_move rfl rfl rfl ?_))
 refine l_neq rfl rfl rfl rfl ?_
 refine l_nil (e_then ?_)
 refine c_keep [0, 1, 4, 6, 17] (.cons rfl (.cons rfl (.cons rfl (.cons rfl (.cons rfl .nil))))) ?_
 first | refine c_cond rfl (fun hc0 => ?_) (fun hc0 => ?_) | refine c_condb rfl (fun hc0 => ?_) (fun hc0 => ?_)
 ·skip
  refine c_seq (c_region ?_)
  refine l_buildS rfl rfl pl47 ta47 .nil ?_
  refine l_move rfl rfl rfl ?_
  refine l_store_blks hw1 .head (.zero (.zero (.zero .nil))) rfl tz47 rfl rfl (by first | (simp [Value.oneCell']; done) | (intro u hu; simp only [List.mem_cons, List.not_mem_nil, or_false] at hu; rcases hu with rfl | rfl | rfl <;> first | rfl | assumption)) (fun w2 hw2 => ?_)
  try clear hw1
  refine l_assign rfl rfl rfl (l_nil (e_then ?_))
  refine c_keep [4, 5] (.cons rfl (.cons rfl .nil)) ?_
  refine c_ret ?_
  refine e_then_ret ?_
  refine e_doneN Tryz.results75 (.cell rfl (load_agg_run hw2 mem0 Tryz.underlying47 rfl tz47 (.take (.take (.take .nil)))) (.tmp rfl .nil)) rfl ?_
  refine ⟨_, rfl, ?_⟩
  have hw3 := St.del .head hw2
  try clear hw2
  refine ⟨?_, hw3.grows⟩
  unfold splF
  rw [ofk_bad hc0]
  all_goals rfl
 ·skip
  obtain ⟨d, hk, hlt⟩ := chk_ok (k := k) (b := b) (by omega) hb.2
  have hk0 := chk_some hk hlt
  have hb2 : 0 ≤ b ∧ b < 2 * d.S := ⟨hb.1, hlt⟩
  have hbd := d.bd
  have h9 := kd_9 hk
  have hms := mod_S d hb2
  have hpt := parts_d d (s := b % d.S) (by omega)
  have hXb : 256 ≤ d.X ∧ d.X ≤ 2048 := by cases d <;> decide
  refine c_skip (e_then ?_)
  refine c_keep [0, 1, 4] (.cons rfl (.cons rfl (.cons rfl .nil))) ?_
  refine c_seq (c_seq (c_region (l_move rfl rfl rfl (l_move rfl rfl rfl ?_))))
  refine l_call rfl rfl Tryz.func107 rfl rfl (.cons rfl (.cons rfl .nil)) (finite3 k d hk b hb2 w1) ?_
  rintro _ w4 ⟨rfl, hG⟩
  have hw4 := hG _ _ _ _ hw1
  try clear hG hw1
  simp only [List.cons_append, List.nil_append] at hw4
  first | refine l_notd rfl rfl rfl ?_ | refine l_not rfl rfl rfl ?_
  refine l_nil (e_then ?_)
  refine c_keep [0, 1, 4, 23] (.cons rfl (.cons rfl (.cons rfl (.cons rfl .nil)))) ?_
  first | refine c_cond rfl (fun hc1 => ?_) (fun hc1 => ?_) | refine c_condb rfl (fun hc1 => ?_) (fun hc1 => ?_)
  ·skip
   refine c_seq (c_region ?_)
   refine l_buildS rfl rfl pl47 ta47 .nil ?_
   refine l_store_blks hw4 .head (.zero (.zero (.zero .nil))) rfl tz47 rfl rfl (by first | (simp [Value.oneCell']; done) | (intro u hu; simp only [List.mem_cons, List.not_mem_nil, or_false] at hu; rcases hu with rfl | rfl | rfl <;> first | rfl | assumption)) (fun w5 hw5 => ?_)
   try clear hw4
   refine l_assign rfl rfl rfl (l_nil (e_then ?_))
   refine c_keep [4, 5] (.cons rfl (.cons rfl .nil)) ?_
   refine c_ret ?_
   refine e_then_ret ?_
   refine e_doneN Tryz.results75 (.cell rfl (load_agg_run hw5 mem0 Tryz.underlying47 rfl tz47 (.take (.take (.take .nil)))) (.tmp rfl .nil)) rfl ?_
   refine ⟨_, rfl, ?_⟩
   have hw6 := St.del .head hw5
   try clear hw5
   refine ⟨?_, hw6.grows⟩
   unfold splF
   rw [ofk_ok hk hk0, if_pos (by omega)]
   all_goals rfl
  ·skip
   refine c_skip (e_then ?_)
   refine c_keep [0, 1, 4] (.cons rfl (.cons rfl (.cons rfl .nil))) ?_
   refine c_seq (c_region (l_move rfl rfl rfl ?_))
   refine l_callp rfl rfl Tryz.func56 rfl rfl (.cons rfl .nil) (shape3k hk w4) ?_
   refine l_move rfl rfl rfl (l_extract rfl rfl rfl rfl (l_extract rfl rfl rfl rfl (l_extract rfl rfl rfl rfl (l_assign rfl rfl rfl (l_assign rfl rfl rfl ?_)))))
   refine l_assign rfl rfl rfl (l_nil (e_then ?_))
   refine c_keep [0, 1, 4, 7, 8] (.cons rfl (.cons rfl (.cons rfl (.cons rfl (.cons rfl .nil))))) ?_
   refine c_seq (c_region (l_move rfl rfl rfl (l_move rfl rfl rfl ?_)))
   refine l_call rfl rfl Tryz.func94 rfl rfl (.cons rfl (.cons rfl .nil)) (parts3 k d hk b hb2 w4) ?_
   rintro _ w7 ⟨rfl, hG⟩
   have hw7 := hG _ _ _ _ hw4
   try clear hG hw4
   simp only [List.cons_append, List.nil_append] at hw7
   refine l_move rfl rfl rfl (l_extract rfl rfl rfl rfl (l_extract rfl rfl rfl rfl (l_assign rfl rfl rfl (l_assign rfl rfl rfl (l_nil ?_)))))
   refine e_then ?_
   refine c_keep [0, 1, 4, 7, 8, 10, 11] (.cons rfl (.cons rfl (.cons rfl (.cons rfl (.cons rfl (.cons rfl (.cons rfl .nil))))))) ?_
   refine c_seq (c_region (l_move rfl rfl rfl ?_))
   refine l_sub rfl rfl rfl rfl (w_i64 (by omega)) ?_
   refine l_conv rfl rfl Tryz.underlying3 Tryz.underlying44 rfl (w_u64 (by omega)) ?_
   refine l_shl rfl rfl rfl rfl (by omega) (sh_Xh d) ?_
   refine l_sub rfl rfl rfl rfl (w_i64 (by omega)) ?_
   refine l_move rfl rfl rfl ?_
   refine l_sub rfl rfl rfl rfl (w_i64 (by omega)) ?_
   refine l_turn (s := 43) (v' := .int .i64 (-(d.l : Int))) rfl (by rw [sh_least]) ?_
   refine l_assign rfl rfl rfl (l_nil (e_then ?_))
   refine c_keep [0, 1, 4, 7, 10, 11, 12] (.cons rfl (.cons rfl (.cons rfl (.cons rfl (.cons rfl (.cons rfl (.cons rfl .nil))))))) ?_
   refine c_seq (c_seq (c_region (l_move rfl rfl rfl ?_)))
   refine l_eql rfl rfl rfl rfl ?_
   refine l_nil (e_then ?_)
   refine c_keep [0, 1, 4, 7, 10, 11, 12, 45] (.cons rfl (.cons rfl (.cons rfl (.cons rfl (.cons rfl (.cons rfl (.cons rfl (.cons rfl .nil)))))))) ?_
   first | refine c_cond rfl (fun hc2 => ?_) (fun hc2 => ?_) | refine c_condb rfl (fun hc2 => ?_) (fun hc2 => ?_)
   ·skip
    refine c_seq (c_region (l_move rfl rfl rfl (l_move rfl rfl rfl ?_)))
    refine l_callp rfl rfl Tryz.func93 rfl rfl (.cons rfl .nil) (sign3 k d hk w7) ?_
    refine l_geq rfl rfl rfl rfl ?_
    refine l_move rfl rfl rfl (l_move rfl rfl rfl ?_)
    refine l_buildS rfl rfl pl47 ta47 (.one rfl rfl (by first | rfl | assumption) .zero (.one rfl rfl (by first | rfl | assumption) (.succ .zero) (.one rfl rfl (by first | rfl | assumption) (.succ (.succ .zero)) .nil))) ?_
    refine l_store_blks hw7 .head (.zero (.zero (.zero .nil))) rfl tz47 rfl rfl (by first | (simp [Value.oneCell']; done) | (intro u hu; simp only [List.mem_cons, List.not_mem_nil, or_false] at hu; rcases hu with rfl | rfl | rfl <;> first | rfl | assumption)) (fun w8 hw8 => ?_)
    try clear hw7
    refine l_assign rfl rfl rfl (l_nil (e_then ?_))
    refine c_keep [4, 5] (.cons rfl (.cons rfl .nil)) ?_
    refine c_ret ?_
    refine e_then_ret ?_
    refine e_doneN Tryz.results75 (.cell rfl (load_agg_run hw8 mem0 Tryz.underlying47 rfl tz47 (.take (.take (.take .nil)))) (.tmp rfl .nil)) rfl ?_
    refine ⟨_, rfl, ?_⟩
    have hw9 := St.del .head hw8
    try clear hw8
    refine ⟨?_, hw9.grows⟩
    unfold splF
    rw [ofk_ok hk hk0, if_neg (by omega)]
    unfold splM splE
    rw [if_pos (by omega), if_pos (by omega), hpt.2.2.2.2.2.2.2.2.1 (by omega)]
    all_goals rfl
   ·skip
    refine c_skip (e_then ?_)
    refine c_keep [0, 1, 4, 7, 10, 11, 12] (.cons rfl (.cons rfl (.cons rfl (.cons rfl (.cons rfl (.cons rfl (.cons rfl .nil))))))) ?_
    refine c_seq (c_region (l_move rfl rfl rfl (l_move rfl rfl rfl ?_)))
    refine l_callp rfl rfl Tryz.func93 rfl rfl (.cons rfl .nil) (sign3 k d hk w7) ?_
    refine l_geq rfl rfl rfl rfl ?_
    refine l_move rfl rfl rfl (l_move rfl rfl rfl ?_)
    refine l_conv rfl rfl Tryz.underlying3 Tryz.underlying44 rfl (w_u64 (by omega)) ?_
    refine l_shl rfl rfl rfl rfl (by omega) (sh_half d) ?_
    refine l_add rfl rfl rfl rfl (w_u64 (by omega)) ?_
    refine l_move rfl rfl rfl (l_move rfl rfl rfl ?_)
    refine l_add rfl rfl rfl rfl (w_i64 (by omega)) ?_
    refine l_sub rfl rfl rfl rfl (w_i64 (by omega)) ?_
    refine l_buildS rfl rfl pl47 ta47 (.one rfl rfl (by first | rfl | assumption) .zero (.one rfl rfl (by first | rfl | assumption) (.succ .zero) (.one rfl rfl (by first | rfl | assumption) (.succ (.succ .zero)) .nil))) ?_
    refine l_store_blks hw7 .head (.zero (.zero (.zero .nil))) rfl tz47 rfl rfl (by first | (simp [Value.oneCell']; done) | (intro u hu; simp only [List.mem_cons, List.not_mem_nil, or_false] at hu; rcases hu with rfl | rfl | rfl <;> first | rfl | assumption)) (fun w10 hw10 => ?_)
    try clear hw7
    refine l_assign rfl rfl rfl (l_nil (e_then ?_))
    refine c_keep [4, 5] (.cons rfl (.cons rfl .nil)) ?_
    refine c_ret ?_
    refine e_doneN Tryz.results75 (.cell rfl (load_agg_run hw10 mem0 Tryz.underlying47 rfl tz47 (.take (.take (.take .nil)))) (.tmp rfl .nil)) rfl ?_
    refine ⟨_, rfl, ?_⟩
    have hw11 := St.del .head hw10
    try clear hw10
    refine ⟨?_, hw11.grows⟩
    unfold splF
    rw [ofk_ok hk hk0, if_neg (by omega)]
    unfold splM splE
    rw [if_neg (by omega), if_neg (by omega), show -(d.l : Int) + (b % d.S / d.H - 1) = -(d.l : Int) + b % d.S / d.H - 1 by omega]
    all_goals rfl
theorem inf3 (k : Int) (d : Kd) (hk : kd k = some d) (neg : Bool) (w : World) :
  CallsV P 57 [.int .i64 k, .bool neg] w fun r w' => r = .int .u64 (if neg then d.I + d.S else d.I) ∧ w = w' := by
 refine enterW Tryz.func57 rfl Tryz.ntmps57 rfl ?_
 have hbd := d.bd
 have h9 := kd_9 hk
 refine c_seq (c_region (l_assign rfl rfl rfl (l_nil (e_then ?_))))
 refine c_keep [0, 1] (.cons rfl (.cons rfl .nil)) ?_
 refine c_seq (c_region (l_move rfl rfl rfl ?_))
 refine l_callp rfl rfl Tryz.func92 rfl rfl (.cons rfl .nil) (greatest3 k d hk w) ?_
 refine l_add rfl rfl rfl rfl (w_u64 (by omega)) ?_
 refine l_assign rfl rfl rfl (l_nil (e_then ?_))
 refine c_keep [0, 1, 5] (.cons rfl (.cons rfl (.cons rfl .nil))) ?_
 refine c_seq (c_seq (c_region (l_move rfl rfl rfl (l_nil (e_then ?_)))))
 refine c_keep [0, 5, 9] (.cons rfl (.cons rfl (.cons rfl .nil))) ?_
 first | refine c_cond rfl (fun hc0 => ?_) (fun hc0 => ?_) | refine c_condb rfl (fun hc0 => ?_) (fun hc0 => ?_)
 ·skip
  refine c_region (l_move rfl rfl rfl (l_move rfl rfl rfl ?_))
  refine l_callp rfl rfl Tryz.func93 rfl rfl (.cons rfl .nil) (sign3 k d hk w) ?_
  refine l_add rfl rfl rfl rfl (w_u64 (by omega)) ?_
  refine l_assign rfl rfl rfl (l_nil (e_then ?_))
  refine c_keep [5] (.cons rfl .nil) ?_
  refine c_seq (c_region (l_move rfl rfl rfl (l_assign rfl rfl rfl (l_nil (e_then ?_)))))
  refine c_keep [4] (.cons rfl .nil) ?_
  refine c_ret ?_
  refine e_done1 Tryz.results57 rfl ?_
  refine ⟨_, rfl, ?_⟩
  exact ⟨by subst_vars; rw [show d.I - 1 + 1 = d.I by omega]; rfl, rfl⟩
 ·skip
  refine c_skip (e_then ?_)
  refine c_keep [5] (.cons rfl .nil) ?_
  refine c_seq (c_region (l_move rfl rfl rfl (l_assign rfl rfl rfl (l_nil (e_then ?_)))))
  refine c_keep [4] (.cons rfl .nil) ?_
  refine c_ret ?_
  refine e_done1 Tryz.results57 rfl ?_
  refine ⟨_, rfl, ?_⟩
  exact ⟨by rw [show d.I - 1 + 1 = d.I by omega]; simp_all, rfl⟩
theorem blen_mul {x y : Int} (hx0 : 0 ≤ x) (hy0 : 0 ≤ y) {m n : Nat} (hx : Ma.blen x ≤ m) (hy : Ma.blen y ≤ n) : Ma.blen (x * y) ≤ (m + n : Nat) := by
 refine (Ma.blen_le_iff (Int.mul_nonneg hx0 hy0) (m + n)).2 ?_
 have h1 := (Ma.blen_le_iff hx0 m).1 hx
 have h2 := (Ma.blen_le_iff hy0 n).1 hy
 have h3 : x * y ≤ x * 2 ^ n := Int.mul_le_mul_of_nonneg_left (by omega) hx0
 have h4 : (x + 1) * 2 ^ n ≤ 2 ^ m * 2 ^ n := Int.mul_le_mul_of_nonneg_right (by omega) (by omega)
 have hp := Ma.pow_pos (show (0 : Int) < 2 by omega) n
 rw [Int.pow_add]
 rw [Int.add_mul] at h4
 omega
theorem cmpI_mul {a b p : Int} (hp : 0 < p) : cmpI (a * p) (b * p) = cmpI a b := by
 unfold cmpI
 have h1 : a * p < b * p ↔ a < b := Int.mul_lt_mul_right hp
 have h2 : b * p < a * p ↔ b < a := Int.mul_lt_mul_right hp
 simp only [h1, h2]
theorem cmpI_le {a b : Int} : cmpI a b ≤ 0 ↔ a ≤ b := by unfold cmpI; (repeat' split) <;> omega
theorem cmpI_0 {a b : Int} : cmpI a b = 0 ↔ a = b := by unfold cmpI; (repeat' split) <;> omega
theorem cmpI_lt0 {a b : Int} : cmpI a b < 0 ↔ a < b := by unfold cmpI; (repeat' split) <;> omega
theorem R16.lt16 {l : List Int} {n : Int} (h : R16 l n) : n < 2 ^ (16 * l.length) := by
 have h1 := Ma.vb_lt (show (0 : Int) < 65536 by omega) h.dg
 rw [h.val, show (65536 : Int) = 2 ^ 16 from rfl, ← Int.pow_mul] at h1
 exact h1
theorem R16.len_lt {l : List Int} {n : Int} (h : R16 l n) {k : Nat} (hb : n < 2 ^ k) : 16 * l.length ≤ k + 16 := h.len (k := k) ((Ma.blen_le_iff (h.nonneg (by omega)) k).2 hb)
theorem R16.len_mul {a b c : List Int} {x y : Int} (ha : R16 a x) (hb : R16 b y) (hc : R16 c (x * y)) : c.length ≤ a.length + b.length + 1 := by
 have h0 := hb.nonneg (by omega)
 have h1 : x * y ≤ x * 2 ^ (16 * b.length) := Int.mul_le_mul_of_nonneg_left (Int.le_of_lt hb.lt16) (ha.nonneg (by omega))
 have h2 : x * 2 ^ (16 * b.length) < 2 ^ (16 * a.length) * 2 ^ (16 * b.length) := Int.mul_lt_mul_of_pos_right ha.lt16 (Ma.pow_pos (by omega) _)
 rw [← Int.pow_add] at h2
 have := hc.len_lt (k := 16 * a.length + 16 * b.length) (by omega)
 omega
theorem R16.len_left {a c : List Int} {x : Int} {N : Nat} (ha : R16 a x) (hc : R16 c (x * 2 ^ N)) : 16 * c.length ≤ 16 * a.length + N + 16 := by
 have h2 : x * 2 ^ N < 2 ^ (16 * a.length) * 2 ^ N := Int.mul_lt_mul_of_pos_right ha.lt16 (Ma.pow_pos (by omega) _)
 rw [← Int.pow_add] at h2
 exact hc.len_lt h2
theorem fv_spl (d : Kd) {b : Int} (hb : 0 ≤ b ∧ b < d.I) : 0 ≤ splE d b + d.l ∧ splE d b ≤ 1000 ∧ 0 ≤ splM d b ∧ splM d b ≤ 9007199254740992 ∧ fv d.H b = splM d b * 2 ^ (splE d b + d.l).toNat ∧ fv d.H (b + 1) = (splM d b + 1) * 2 ^ (splE d b + d.l).toNat := by
 have hbd := d.bd
 have hH53 : d.H ≤ 4503599627370496 := by cases d <;> decide
 have hm : b % d.S = b := Int.emod_eq_of_lt hb.1 (by omega)
 have hq := quo_H d hb.1 hb.2
 have hX : b / d.H - 1 - d.l ≤ 1000 := by
  cases d
  ·have h2 : b < 2139095040 := hb.2
   show b / 8388608 - 1 - 149 ≤ 1000; omega
  ·have h2 : b < 9218868437227405312 := hb.2
   show b / 4503599627370496 - 1 - 1074 ≤ 1000; omega
 have e := Int.emod_add_mul_ediv b d.H
 unfold splE splM
 rw [hm]
 by_cases h : b < d.H
 ·rw [if_pos h, if_pos h, show (-(d.l : Int) + d.l) = 0 by omega]
  have e1 := fv_of hbd.1 0 hb.1 (by omega) (.inl rfl)
  have e2 := fv_of (x := b + 1) hbd.1 0 (by omega) (by omega) (.inl rfl)
  rw [show ((0 : Nat) : Int) * d.H = 0 by simp, Int.add_zero] at e1 e2
  exact ⟨by omega, by omega, hb.1, by omega, e1, e2⟩
 ·rw [if_neg h, if_neg h]
  obtain ⟨u, hu⟩ : ∃ u : Nat, b / d.H = u + 1 := ⟨(b / d.H - 1).toNat, by omega⟩
  have hbu : b = (b % d.H + d.H) + u * d.H := by
   rw [hu, Int.mul_add, Int.mul_comm d.H u] at e; omega
  have e1 := fv_of (x := b % d.H + d.H) hbd.1 u (by omega) (by omega) (.inr (by omega))
  have e2 := fv_of (x := b % d.H + d.H + 1) hbd.1 u (by omega) (by omega) (.inr (by omega))
  rw [← hbu] at e1
  rw [show b % d.H + d.H + 1 + u * d.H = b + 1 by omega] at e2
  rw [show (-(d.l : Int) + (b / d.H - 1) + d.l).toNat = u by omega]
  exact ⟨by omega, by omega, by omega, by omega, e1, e2⟩
theorem against_eq {m n dd e : Int} {l : Nat} (hl : 0 ≤ e + l) : (if 0 ≤ e then cmpI (m * dd * 2 ^ e.toNat) n else cmpI (m * dd) (n * 2 ^ (0 - e).toNat)) = cmpI (m * 2 ^ (e + l).toNat * dd) (n * 2 ^ l) := by
 have hp : ∀ k : Nat, (0 : Int) < 2 ^ k := fun k => Ma.pow_pos (by omega) k
 split
 ·rename_i h
  rw [← cmpI_mul (hp l), show (e + l).toNat = e.toNat + l by omega, Int.pow_add, Int.mul_assoc, Int.mul_right_comm m]
 ·rename_i h
  rw [← cmpI_mul (hp (e + l).toNat), Int.mul_assoc n, ← Int.pow_add, show (0 - e).toNat + (e + l).toNat = l by omega, Int.mul_right_comm m]
theorem near_exact {d : Kd} {N D b : Int} (hD : 0 < D) (hb : 0 ≤ b ∧ b ≤ d.I - 1) (h : fv d.H b * D = N) : RndR d.H (d.I - 1) N D (b, true, 0) := by
 have hbd := d.bd
 have hI := d.I_lt
 have hl := fv_lt hbd.1 hb.1
 have hlD := Int.mul_lt_mul_of_pos_right hl hD
 have hu : ¬ upR d.H N D b := by
  unfold upR
  rw [Int.add_mul]
  omega
 have := RndR.of hbd.1 hD (by omega) hI.2.1 hb.1 (Int.le_of_eq h) (by omega)
 rw [if_neg hu, if_pos (by omega), decide_eq_true h] at this
 exact this
theorem near_up {d : Kd} {N D b : Int} (hD : 0 < D) (hb : 0 ≤ b ∧ b ≤ d.I - 1) (h : fv d.H b * D ≤ N) (h2 : b = d.I - 1 ∨ N < fv d.H (b + 1) * D) (hu : upR d.H N D b) :
  RndR d.H (d.I - 1) N D (if b = d.I - 1 then (0, false, 34) else (b + 1, false, 0)) := by
 have hbd := d.bd
 have hI := d.I_lt
 have hne : ¬ fv d.H b * D = N := by
  intro e
  have hlD := Int.mul_lt_mul_of_pos_right (fv_lt hbd.1 hb.1) hD
  unfold upR at hu
  rw [Int.add_mul] at hu
  omega
 by_cases hg : b = d.I - 1
 ·rw [if_pos hg]
  subst hg
  refine .inl ⟨?_, rfl⟩
  unfold upR at hu
  omega
 ·rw [if_neg hg]
  have := RndR.of hbd.1 hD (by omega) hI.2.1 hb.1 h (h2.resolve_left hg)
  rw [if_pos hu, if_pos (by omega), decide_eq_false hne] at this
  exact this
theorem near_down {d : Kd} {N D b : Int} (hD : 0 < D) (hb : 0 ≤ b ∧ b ≤ d.I - 1) (h : fv d.H b * D ≤ N) (h2 : b = d.I - 1 ∨ N < fv d.H (b + 1) * D) (hne : ¬ fv d.H b * D = N) (hu : ¬ upR d.H N D b) : RndR d.H (d.I - 1) N D (b, false, 0) := by
 have hbd := d.bd
 have hI := d.I_lt
 have h3 : N < fv d.H (b + 1) * D := by
  rcases h2 with h2 | h2
  ·have hlD := Int.mul_lt_mul_of_pos_right (fv_lt hbd.1 hb.1) hD
   unfold upR at hu
   rw [Int.add_mul] at hu
   omega
  ·exact h2
 have := RndR.of hbd.1 hD (by omega) hI.2.1 hb.1 h h3
 rw [if_neg hu, if_pos (by omega), decide_eq_false hne] at this
 exact this
theorem against3 (vm : Value) (lm : List Int) (m e : Int) (hRm : R16 lm m) (hLm : lm.length ≤ 4096) (he : -4000 ≤ e ∧ e ≤ 4000) (vn vd : Value) (ln ld : List Int) (n dd : Int) (hRn : R16 ln n) (hRd : R16 ld dd) (hLn : ln.length ≤ 4096) (hLd : ld.length ≤ 4096) (w : World) (hm : IV w vm (ints .i64 lm)) (hn : IV w vn (ints .i64 ln)) (hd : IV w vd (ints .i64 ld)) :
  CallsV P 117 [vm, .int .i64 e, vn, vd] w fun r w' => r = .int .i64 (if 0 ≤ e then cmpI (m * dd * 2 ^ e.toNat) n else cmpI (m * dd) (n * 2 ^ (0 - e).toNat)) ∧ Grow w w' [] := by
 refine enterW Tryz.func117 rfl Tryz.ntmps117 rfl ?_
 have hw0 := St.start w
 refine c_seq (c_region (l_assign rfl rfl rfl (l_nil (e_then ?_))))
 refine c_keep [0, 1, 2, 3] (.cons rfl (.cons rfl (.cons rfl (.cons rfl .nil)))) ?_
 refine c_seq (c_region (l_move rfl rfl rfl (l_move rfl rfl rfl ?_)))
 refine l_call rfl rfl Tryz.func42 rfl rfl (.cons rfl (.cons rfl .nil)) (prodR _ _ _ _ _ _ hRm hRd (by omega) (by omega) w (hw0.iarg hm) (hw0.iarg hd)) ?_
 rintro vx w1 ⟨_, lx, rfl, hRx, hG⟩
 have hw1 := hG _ _ _ _ hw0
 try clear hG hw0
 simp only [List.cons_append, List.nil_append] at hw1
 have hlx := hRm.len_mul hRd hRx
 refine l_assign rfl rfl rfl (l_nil (e_then ?_))
 refine c_keep [1, 2, 9] (.cons rfl (.cons rfl (.cons rfl .nil))) ?_
 refine c_seq (c_seq (c_region (l_move rfl rfl rfl ?_)))
 refine l_geq rfl rfl rfl rfl ?_
 refine l_nil (e_then ?_)
 refine c_keep [1, 2, 9, 14] (.cons rfl (.cons rfl (.cons rfl (.cons rfl .nil)))) ?_
 first | refine c_cond rfl (fun hc0 => ?_) (fun hc0 => ?_) | refine c_condb rfl (fun hc0 => ?_) (fun hc0 => ?_)
 ·skip
  refine c_seq (c_region (l_move rfl rfl rfl (l_move rfl rfl rfl ?_)))
  refine l_turn (s := 16) (v' := .int .i64 ((e.toNat : Nat) : Int)) rfl (by rw [Int.toNat_of_nonneg hc0]) ?_
  refine l_call rfl rfl Tryz.func108 rfl rfl (.cons rfl (.cons rfl .nil)) (leftR vx lx _ hRx (by omega) e.toNat (by omega) w1 (hw1.io mem0)) ?_
  rintro vy w2 ⟨_, ly, rfl, hRy, hG⟩
  have hw2 := hG _ _ _ _ hw1
  try clear hG hw1
  simp only [List.cons_append, List.nil_append] at hw2
  refine l_move rfl rfl rfl ?_
  refine l_call rfl rfl Tryz.func65 rfl rfl (.cons rfl (.cons rfl .nil)) (cmpR _ _ _ _ _ _ hRy hRn (by have := hRx.len_left hRy; omega) (by omega) w2 (hw2.io mem0) (hw2.iarg hn)) ?_
  rintro _ w3 ⟨rfl, hG⟩
  have hw3 := hG _ _ _ _ hw2
  try clear hG hw2
  simp only [List.cons_append, List.nil_append] at hw3
  refine l_assign rfl rfl rfl (l_nil (e_then ?_))
  refine c_keep [8] (.cons rfl .nil) ?_
  refine c_ret ?_
  refine e_then_ret ?_
  refine e_done1 Tryz.results117 rfl ?_
  refine ⟨_, rfl, ?_⟩
  have hw4 := St.del (.tail .head) hw3
  try clear hw3
  have hw5 := St.del .head hw4
  try clear hw4
  exact ⟨by rw [if_pos hc0], hw5.grows⟩
 ·skip
  refine c_skip (e_then ?_)
  refine c_keep [1, 2, 9] (.cons rfl (.cons rfl (.cons rfl .nil))) ?_
  refine c_seq (c_region (l_move rfl rfl rfl (l_move rfl rfl rfl (l_move rfl rfl rfl ?_))))
  refine l_neg rfl rfl rfl (w_i64 (by omega)) ?_
  refine l_turn (s := 23) (v' := .int .i64 (((0 - e).toNat : Nat) : Int)) rfl (by rw [Int.toNat_of_nonneg (by omega)]) ?_
  refine l_call rfl rfl Tryz.func108 rfl rfl (.cons rfl (.cons rfl .nil)) (leftR vn ln _ hRn (by omega) (0 - e).toNat (by omega) w1 (hw1.iarg hn)) ?_
  rintro vy w6 ⟨_, ly, rfl, hRy, hG⟩
  have hw6 := hG _ _ _ _ hw1
  try clear hG hw1
  simp only [List.cons_append, List.nil_append] at hw6
  refine l_call rfl rfl Tryz.func65 rfl rfl (.cons rfl (.cons rfl .nil)) (cmpR _ _ _ _ _ _ hRx hRy (by omega) (by have := hRn.len_left hRy; omega) w6 (hw6.io mem1) (hw6.io mem0)) ?_
  rintro _ w7 ⟨rfl, hG⟩
  have hw7 := hG _ _ _ _ hw6
  try clear hG hw6
  simp only [List.cons_append, List.nil_append] at hw7
  refine l_assign rfl rfl rfl (l_nil (e_then ?_))
  refine c_keep [8] (.cons rfl .nil) ?_
  refine c_ret ?_
  refine e_done1 Tryz.results117 rfl ?_
  refine ⟨_, rfl, ?_⟩
  have hw8 := St.del (.tail .head) hw7
  try clear hw7
  have hw9 := St.del .head hw8
  try clear hw8
  exact ⟨by rw [if_neg hc0], hw9.grows⟩
theorem nv_one (x : Int) : nv [x] = x := by show x + _ * 0 = x; omega
theorem spl_fin {k b : Int} {d : Kd} (hk : kd k = some d) (hb : 0 ≤ b ∧ b < d.I) : splF k b = (false, splM d b, splE d b, 0) := by
 have hbd := d.bd
 unfold splF
 rw [ofk_ok hk (chk_some hk (by omega)), Int.emod_eq_of_lt hb.1 (by omega), if_neg (by omega), decide_eq_false (by omega)]
theorem split3f {k b : Int} {d : Kd} (hk : kd k = some d) (hb : 0 ≤ b ∧ b < d.I) (w : World) : CallsV P 75 [.int .i64 k, .int .u64 b] w fun r w' => r = .tuple #[.agg #[.bool false, .int .u64 (splM d b), .int .i64 (splE d b)], .int .i64 0] ∧ Grow w w' [] := by
 have hbd := d.bd
 refine (split3 k b (by omega) w).mono ?_
 rintro r w' ⟨rfl, hG⟩
 rw [spl_fin hk hb]
 exact ⟨rfl, hG⟩
theorem at3 (k : Int) (d : Kd) (hk : kd k = some d) (b : Int) (hb : 0 ≤ b ∧ b < d.I) (vn vd : Value) (ln ld : List Int) (n dd : Int) (hRn : R16 ln n) (hRd : R16 ld dd) (hLn : ln.length ≤ 4096) (hLd : ld.length ≤ 4096) (w : World) (hn : IV w vn (ints .i64 ln)) (hd : IV w vd (ints .i64 ld)) :
  CallsV P 116 [.int .i64 k, .int .u64 b, vn, vd] w fun r w' => r = .int .i64 (cmpI (fv d.H b * dd) (n * 2 ^ d.l)) ∧ Grow w w' [] := by
 refine enterW Tryz.func116 rfl Tryz.ntmps116 rfl ?_
 have hw0 := St.start w
 have hbd := d.bd
 have h9 := kd_9 hk
 have hsp := spl_fin hk hb
 have hfs := fv_spl d hb
 have hM64 : 0 ≤ splM d b ∧ splM d b ≤ 18446744073709551615 := by omega
 refine c_seq (c_region (l_assign rfl rfl rfl (l_nil (e_then ?_))))
 refine c_keep [0, 1, 2, 3] (.cons rfl (.cons rfl (.cons rfl (.cons rfl .nil)))) ?_
 refine c_seq (c_region (l_move rfl rfl rfl (l_move rfl rfl rfl ?_)))
 refine l_call rfl rfl Tryz.func75 rfl rfl (.cons rfl (.cons rfl .nil)) (split3f hk hb w) ?_
 rintro _ w1 ⟨rfl, hG⟩
 have hw1 := hG _ _ _ _ hw0
 try clear hG hw0
 simp only [List.cons_append, List.nil_append] at hw1
 refine l_move rfl rfl rfl (l_extract rfl rfl rfl rfl (l_extract rfl rfl rfl rfl ?_))
 refine l_alloc hw1 ta47 rfl rfl (fun b1_6 w2 hw2 => ?_)
 try clear hw1
 refine l_store_blks hw2 .head (.zero (.zero (.zero .nil))) rfl tz47 rfl rfl (by first | (simp [Value.oneCell']; done) | (intro u hu; simp only [List.mem_cons, List.not_mem_nil, or_false] at hu; rcases hu with rfl | rfl | rfl <;> first | rfl | assumption)) (fun w3 hw3 => ?_)
 try clear hw2
 refine l_assign rfl rfl rfl (l_nil (e_then ?_))
 refine c_keep [2, 3, 9] (.cons rfl (.cons rfl (.cons rfl .nil))) ?_
 refine c_seq ?_
 have hw4 := hw3.drewn
 try clear hw3
 refine c_any (n := 10) [false, false, false, false, false, false, false, false, false, false] (fun wS => (As.blk b1_6 47 [.bool false, .int .u64 (splM d b), .int .i64 (splE d b)]).ok wS) (by kernel_rfl) rfl rfl ?_
 apply a_take (L' := [true, false, false, false, false, false, false, false, false, false]) 0 rfl (by kernel_rfl) (by kernel_rfl) (by kernel_rfl) rfl rfl rfl rfl rfl (hw4.ok mem0)
 ·intro wS sS
  refine l_field fo47_1 rfl rfl rfl (l_nil ?_)
  exact e_got rfl
 apply a_take (L' := [true, true, false, false, false, false, false, false, false, false]) 1 rfl (by kernel_rfl) (by kernel_rfl) (by kernel_rfl) rfl rfl rfl rfl rfl (hw4.ok mem0)
 ·intro wS sS
  refine l_load_blk (blk_st sS) mem0 rfl rfl Tryz.underlying22 rfl rfl rfl ?_
  refine l_nil ?_
  exact e_got rfl
 apply a_take (L' := [true, true, false, false, true, false, false, false, false, false]) 4 rfl (by kernel_rfl) (by kernel_rfl) (by kernel_rfl) rfl rfl rfl rfl rfl (hw4.ok mem0)
 ·intro wS sS
  refine l_field fo47_2 rfl rfl rfl (l_nil ?_)
  exact e_got rfl
 apply a_take (L' := [true, true, false, false, true, true, false, false, false, false]) 5 rfl (by kernel_rfl) (by kernel_rfl) (by kernel_rfl) rfl rfl rfl rfl rfl (hw4.ok mem0)
 ·intro wS sS
  refine l_load_blk (blk_st sS) mem0 rfl rfl Tryz.underlying3 rfl rfl rfl ?_
  refine l_nil ?_
  exact e_got rfl
 apply a_take (L' := [true, true, false, false, true, true, true, false, false, false]) 6 rfl (by kernel_rfl) (by kernel_rfl) (by kernel_rfl) rfl rfl rfl rfl rfl (hw4.ok mem0)
 ·intro wS sS
  refine l_move rfl rfl rfl (l_nil ?_)
  exact e_got rfl
 apply a_take (L' := [true, true, false, false, true, true, true, true, false, false]) 7 rfl (by kernel_rfl) (by kernel_rfl) (by kernel_rfl) rfl rfl rfl rfl rfl (hw4.ok mem0)
 ·intro wS sS
  refine l_move rfl rfl rfl (l_nil ?_)
  exact e_got rfl
 refine a_one (L' := [true, true, true, false, true, true, true, true, false, false]) 2 (by kernel_rfl) rfl rfl ?_
 refine v_lit hw4 rfl rfl Tryz.underlying83 ti22 rfl (.cons rfl (by first | rfl | assumption) .nil) rfl rfl rfl (fun b2_2 w5 hw5 => ?_)
 try clear hw4
 refine l_nil ?_
 refine e_any (hw5.ok mem1) ?_
 refine a_one (L' := [true, true, true, true, true, true, true, true, false, false]) 3 (by kernel_rfl) rfl rfl ?_
 refine l_call rfl rfl Tryz.func29 rfl rfl (.cons rfl .nil) (numR _ [splM d b] (U.one hM64) (by simp) w5 (hw5.ibl mem0)) ?_
 rintro vm w6 ⟨_, lm, rfl, hRm, hG⟩
 have hw6 := hG _ _ _ _ hw5
 try clear hG hw5
 simp only [List.cons_append, List.nil_append] at hw6
 have hRm2 : R16 lm (splM d b) := by have := hRm; rw [show Ma.vb 18446744073709551616 [splM d b] = splM d b from nv_one _] at this; exact this
 refine l_nil ?_
 refine e_any (hw6.ok mem2) ?_
 refine a_one (L' := [true, true, true, true, true, true, true, true, true, false]) 8 (by kernel_rfl) rfl rfl ?_
 refine l_call rfl rfl Tryz.func117 rfl rfl (.cons rfl (.cons rfl (.cons rfl (.cons rfl .nil)))) (against3 vm lm (splM d b) (splE d b) hRm2 (by have := R16.len_num (U.one hM64) hRm; simp at this; omega) (by omega) vn vd ln ld n dd hRn hRd hLn hLd w6 (hw6.io mem0) (hw6.iarg hn) (hw6.iarg hd)) ?_
 rintro _ w7 ⟨rfl, hG⟩
 have hw7 := hG _ _ _ _ hw6
 try clear hG hw6
 simp only [List.cons_append, List.nil_append] at hw7
 refine l_nil ?_
 refine e_any (hw7.ok mem2) ?_
 apply a_take (L' := [true, true, true, true, true, true, true, true, true, true]) 9 rfl (by kernel_rfl) (by kernel_rfl) (by kernel_rfl) rfl rfl rfl rfl rfl (hw7.ok mem2)
 ·intro wS sS
  refine l_assign rfl rfl rfl (l_nil ?_)
  exact e_got rfl
 refine a_done (by kernel_rfl) ?_
 refine e_then ?_
 refine c_keep [8] (.cons rfl .nil) ?_
 refine c_ret ?_
 refine e_done1 Tryz.results116 rfl ?_
 refine ⟨_, rfl, ?_⟩
 have hw8 := St.del (.tail (.tail .head)) hw7
 try clear hw7
 have hw9 := St.del (.tail .head) hw8
 try clear hw8
 have hw10 := St.del .head hw9
 try clear hw9
 refine ⟨?_, hw10.grows⟩
 rw [against_eq hfs.1, hfs.2.2.2.2.1]
theorem near3 (k : Int) (d : Kd) (hk : kd k = some d) (vn vd : Value) (ln ld : List Int) (n dd : Int) (hRn : R16 ln n) (hRd : R16 ld dd) (hLn : ln.length ≤ 4096) (hLd : ld.length ≤ 4096) (hdp : 0 < dd) (hn0 : 0 ≤ n) (w : World) (hn : IV w vn (ints .i64 ln)) (hd : IV w vd (ints .i64 ld)) :
  CallsV P 98 [.int .i64 k, vn, vd] w fun r w' => ∃ t : Int × Bool × Int, r = .tuple #[.int .u64 t.1, .bool (decide (t.2.2 = 0)), .bool t.2.1] ∧ RndR d.H (d.I - 1) (n * 2 ^ d.l) dd t ∧ Grow w w' [] := by
 refine enterW Tryz.func98 rfl Tryz.ntmps98 rfl ?_
 have hw0 := St.start w
 have hbd := d.bd
 have h9 := kd_9 hk
 have hI := d.I_lt
 obtain ⟨N, hN⟩ : ∃ N, N = n * 2 ^ d.l := ⟨_, rfl⟩
 have hN0 : 0 ≤ N := by rw [hN]; exact Int.mul_nonneg hn0 (Int.le_of_lt (p2 _))
 refine c_seq (c_region (l_assign rfl rfl rfl (l_assign rfl rfl rfl (l_assign rfl rfl rfl (l_nil ?_)))))
 refine e_then ?_
 refine c_keep [0, 1, 2] (.cons rfl (.cons rfl (.cons rfl .nil))) ?_
 refine c_seq (c_region (l_move rfl rfl rfl ?_))
 refine l_callp rfl rfl Tryz.func92 rfl rfl (.cons rfl .nil) (greatest3 k d hk w) ?_
 refine l_assign rfl rfl rfl (l_assign rfl rfl rfl (l_nil (e_then ?_)))
 refine c_keep [0, 1, 2, 9, 10] (.cons rfl (.cons rfl (.cons rfl (.cons rfl (.cons rfl .nil))))) ?_
 refine c_cutk (ι := Int) (fun (lo0 : Int) (w' : World) => St w w.heap.size None' ([]) w' ∧ fv d.H lo0 * dd ≤ N ∧ (lo0 = d.I - 1 ∨ lo0 = 0 ∧ N < fv d.H (d.I - 1) * dd)) (fun (lo0 : Int) => [(9, .int .u64 lo0)]) [0, 1, 2, 10] (.cons rfl (.cons rfl (.cons rfl (.cons rfl .nil)))) ?_ ?_
 ·skip
  refine c_seq (c_region (l_move rfl rfl rfl (l_move rfl rfl rfl (l_move rfl rfl rfl (l_move rfl rfl rfl ?_)))))
  refine l_call rfl rfl Tryz.func116 rfl rfl (.cons rfl (.cons rfl (.cons rfl (.cons rfl .nil)))) (at3 k d hk (d.I - 1) (by omega) vn vd ln ld n dd hRn hRd hLn hLd w (hw0.iarg hn) (hw0.iarg hd)) ?_
  rintro _ w1 ⟨rfl, hG⟩
  have hw1 := hG _ _ _ _ hw0
  try clear hG hw0
  simp only [List.cons_append, List.nil_append] at hw1
  refine l_leq rfl rfl rfl rfl ?_
  refine l_nil (e_then ?_)
  refine c_keep [0, 1, 2, 9, 10, 22] (.cons rfl (.cons rfl (.cons rfl (.cons rfl (.cons rfl (.cons rfl .nil)))))) ?_
  first | refine c_cond rfl (fun hc0 => ?_) (fun hc0 => ?_) | refine c_condb rfl (fun hc0 => ?_) (fun hc0 => ?_)
  ·skip
   refine c_region (l_move rfl rfl rfl (l_assign rfl rfl rfl (l_nil ?_)))
   refine e_meetk (d.I - 1) ?_ (.cons rfl (.cons rfl (.cons rfl (.cons rfl .nil)))) ?_
   ·rw [← hN] at hc0
    exact ⟨hw1, cmpI_le.1 hc0, .inl rfl⟩
   ·exact (.cons rfl (by first | rfl | (refine congrArg (Value.int _) ?_; omega)) .nil)
  ·skip
   refine c_skip ?_
   refine e_meetk (0) ?_ (.cons rfl (.cons rfl (.cons rfl (.cons rfl .nil)))) ?_
   ·rw [← hN] at hc0
    have hlt0 : ¬ fv d.H (d.I - 1) * dd ≤ N := fun h => hc0 (cmpI_le.2 h)
    exact ⟨hw1, by rw [fv_zero hbd.1, Int.zero_mul]; exact hN0, .inr ⟨rfl, by omega⟩⟩
   ·exact (.cons rfl (by first | rfl | (refine congrArg (Value.int _) ?_; omega)) .nil)
 rintro lo0 w2 ⟨hw2, hlo0, hlo1⟩
 show RunC P _ _ _ (_ :: _) _
 refine c_seq (c_block ?_)
 refine c_loopk (ι := Int × Int) (fun (z0 : Int × Int) => match z0 with | ⟨lo, hi⟩ => (hi - lo).toNat) (fun (z0 : Int × Int) (w' : World) => match z0 with | ⟨lo, hi⟩ => St w w.heap.size None' ([]) w' ∧ 0 ≤ lo ∧ lo ≤ hi ∧ hi ≤ d.I - 1 ∧ fv d.H lo * dd ≤ N ∧ (lo = hi ∧ lo = d.I - 1 ∨ lo < hi ∧ N < fv d.H hi * dd)) (fun (z0 : Int × Int) => match z0 with | ⟨lo, hi⟩ => [(9, .int .u64 lo), (10, .int .u64 hi)]) [0, 1, 2] (lo0, d.I - 1) ?_ (.cons rfl (.cons rfl (.cons rfl .nil))) ?_ ?_
 ·exact ⟨hw2, by omega, by omega, by omega, hlo0, by rcases hlo1 with h | h; exact .inl ⟨h, h⟩; exact .inr ⟨by omega, h.2⟩⟩
 ·exact (.cons rfl (by first | rfl | (refine congrArg (Value.int _) ?_; omega)) (.cons rfl (by first | rfl | (refine congrArg (Value.int _) ?_; omega)) .nil))
 rintro ⟨lo, hi⟩ w3 ⟨hw3, hl0, hlh, hhi, hlo, hcs⟩
 show RunC P _ _ _ (_ :: _) _
 refine c_seq (c_seq (c_region (l_move rfl rfl rfl (l_move rfl rfl rfl ?_))))
 refine l_sub rfl rfl rfl rfl (w_u64 (by omega)) ?_
 refine l_gtr rfl rfl rfl rfl ?_
 refine l_nil (e_then ?_)
 refine c_keep [0, 1, 2, 9, 10, 27] (.cons rfl (.cons rfl (.cons rfl (.cons rfl (.cons rfl (.cons rfl .nil)))))) ?_
 first | refine c_cond rfl (fun hc1 => ?_) (fun hc1 => ?_) | refine c_condb rfl (fun hc1 => ?_) (fun hc1 => ?_)
 ·skip
  refine c_skip (e_then ?_)
  refine c_keep [0, 1, 2, 9, 10] (.cons rfl (.cons rfl (.cons rfl (.cons rfl (.cons rfl .nil))))) ?_
  refine c_block (c_seq (c_region (l_move rfl rfl rfl (l_move rfl rfl rfl (l_move rfl rfl rfl ?_)))))
  refine l_sub rfl rfl rfl rfl (w_u64 (by omega)) ?_
  refine l_quo rfl rfl rfl rfl (by omega) (q_u64 (by omega)) ?_
  refine l_add rfl rfl rfl rfl (w_u64 (by omega)) ?_
  refine l_assign rfl rfl rfl (l_nil (e_then ?_))
  refine c_keep [0, 1, 2, 9, 10, 11] (.cons rfl (.cons rfl (.cons rfl (.cons rfl (.cons rfl (.cons rfl .nil)))))) ?_
  refine c_seq (c_region (l_move rfl rfl rfl (l_move rfl rfl rfl (l_move rfl rfl rfl (l_move rfl rfl rfl ?_)))))
  refine l_call rfl rfl Tryz.func116 rfl rfl (.cons rfl (.cons rfl (.cons rfl (.cons rfl .nil)))) (at3 k d hk (lo + (hi - lo) / 2) (by omega) vn vd ln ld n dd hRn hRd hLn hLd w3 (hw3.iarg hn) (hw3.iarg hd)) ?_
  rintro _ w4 ⟨rfl, hG⟩
  have hw4 := hG _ _ _ _ hw3
  try clear hG hw3
  simp only [List.cons_append, List.nil_append] at hw4
  refine l_leq rfl rfl rfl rfl ?_
  refine l_nil (e_then ?_)
  refine c_keep [0, 1, 2, 9, 10, 11, 39] (.cons rfl (.cons rfl (.cons rfl (.cons rfl (.cons rfl (.cons rfl (.cons rfl .nil))))))) ?_
  first | refine c_cond rfl (fun hc2 => ?_) (fun hc2 => ?_) | refine c_condb rfl (fun hc2 => ?_) (fun hc2 => ?_)
  ·skip
   refine c_region (l_move rfl rfl rfl (l_assign rfl rfl rfl (l_nil ?_)))
   refine e_blk ?_
   refine e_againk (i := (lo, hi)) (lo + (hi - lo) / 2, hi) ?_ ?_ (.cons rfl (.cons rfl (.cons rfl .nil))) ?_
   ·first | omega | (simp; omega)
   ·rw [← hN] at hc2
    have hle := cmpI_le.1 hc2
    exact ⟨hw4, by omega, by omega, by omega, hle, by omega⟩
   ·exact (.cons rfl (by first | rfl | (refine congrArg (Value.int _) ?_; omega)) (.cons rfl (by first | rfl | (refine congrArg (Value.int _) ?_; omega)) .nil))
  ·skip
   refine c_region (l_move rfl rfl rfl (l_assign rfl rfl rfl (l_nil ?_)))
   refine e_blk ?_
   refine e_againk (i := (lo, hi)) (lo, lo + (hi - lo) / 2) ?_ ?_ (.cons rfl (.cons rfl (.cons rfl .nil))) ?_
   ·first | omega | (simp; omega)
   ·rw [← hN] at hc2
    have hle : ¬ fv d.H (lo + (hi - lo) / 2) * dd ≤ N := fun h => hc2 (cmpI_le.2 h)
    exact ⟨hw4, by omega, by omega, by omega, hlo, by omega⟩
   ·exact (.cons rfl (by first | rfl | (refine congrArg (Value.int _) ?_; omega)) (.cons rfl (by first | rfl | (refine congrArg (Value.int _) ?_; omega)) .nil))
 ·skip
  refine c_exit ?_
  refine e_then_exit ?_
  refine e_then_exit ?_
  refine e_blk_exit ?_
  refine e_then ?_
  refine c_keep [0, 1, 2, 9] (.cons rfl (.cons rfl (.cons rfl (.cons rfl .nil)))) ?_
  refine c_seq (c_seq (c_region ?_))
  have h2 : lo = d.I - 1 ∨ N < fv d.H (lo + 1) * dd := by
   rcases hcs with h | h
   ·exact .inl h.2
   ·right; rw [show lo + 1 = hi by omega]; exact h.2
  have hsp := spl_fin hk (b := lo) (by omega)
  have hfs := fv_spl d (b := lo) (by omega)
  have hM64 : 0 ≤ 2 * splM d lo + 1 ∧ 2 * splM d lo + 1 ≤ 18446744073709551615 := by omega
  refine l_move rfl rfl rfl (l_move rfl rfl rfl (l_move rfl rfl rfl (l_move rfl rfl rfl ?_)))
  refine l_call rfl rfl Tryz.func116 rfl rfl (.cons rfl (.cons rfl (.cons rfl (.cons rfl .nil)))) (at3 k d hk (lo) (by omega) vn vd ln ld n dd hRn hRd hLn hLd w3 (hw3.iarg hn) (hw3.iarg hd)) ?_
  rintro _ w5 ⟨rfl, hG⟩
  have hw5 := hG _ _ _ _ hw3
  try clear hG hw3
  simp only [List.cons_append, List.nil_append] at hw5
  refine l_eql rfl rfl rfl rfl ?_
  refine l_nil (e_then ?_)
  refine c_keep [0, 1, 2, 9, 47] (.cons rfl (.cons rfl (.cons rfl (.cons rfl (.cons rfl .nil))))) ?_
  first | refine c_cond rfl (fun hc3 => ?_) (fun hc3 => ?_) | refine c_condb rfl (fun hc3 => ?_) (fun hc3 => ?_)
  ·skip
   refine c_seq (c_region (l_move rfl rfl rfl (l_assign rfl rfl rfl (l_assign rfl rfl rfl (l_assign rfl rfl rfl ?_)))))
   refine l_nil (e_then ?_)
   refine c_keep [6, 7, 8] (.cons rfl (.cons rfl (.cons rfl .nil))) ?_
   refine c_ret ?_
   refine e_then_ret ?_
   refine e_doneN Tryz.results98 (.tmp rfl (.tmp rfl (.tmp rfl .nil))) rfl ?_
   refine ⟨_, rfl, ?_⟩
   refine ⟨(lo, true, 0), rfl, ?_, hw5.grows⟩
   rw [← hN] at hc3 ⊢
   exact near_exact hdp ⟨hl0, by omega⟩ (cmpI_0.1 hc3)
  ·skip
   refine c_skip (e_then ?_)
   refine c_keep [0, 1, 2, 9] (.cons rfl (.cons rfl (.cons rfl (.cons rfl .nil)))) ?_
   refine c_seq (c_region (l_move rfl rfl rfl (l_move rfl rfl rfl ?_)))
   refine l_call rfl rfl Tryz.func75 rfl rfl (.cons rfl (.cons rfl .nil)) (split3f hk (b := lo) (by omega) w5) ?_
   rintro _ w6 ⟨rfl, hG⟩
   have hw6 := hG _ _ _ _ hw5
   try clear hG hw5
   simp only [List.cons_append, List.nil_append] at hw6
   refine l_move rfl rfl rfl (l_extract rfl rfl rfl rfl (l_extract rfl rfl rfl rfl ?_))
   refine l_alloc hw6 ta47 rfl rfl (fun b11_6 w7 hw7 => ?_)
   try clear hw6
   refine l_store_blks hw7 .head (.zero (.zero (.zero .nil))) rfl tz47 rfl rfl (by first | (simp [Value.oneCell']; done) | (intro u hu; simp only [List.mem_cons, List.not_mem_nil, or_false] at hu; rcases hu with rfl | rfl | rfl <;> first | rfl | assumption)) (fun w8 hw8 => ?_)
   try clear hw7
   refine l_assign rfl rfl rfl (l_nil (e_then ?_))
   refine c_keep [0, 1, 2, 9, 12] (.cons rfl (.cons rfl (.cons rfl (.cons rfl (.cons rfl .nil))))) ?_
   refine c_seq ?_
   have hw9 := hw8.drewn
   try clear hw8
   refine c_any (n := 13) [false, false, false, false, false, false, false, false, false, false, false, false, false] (fun wS => (As.blk b11_6 47 [.bool false, .int .u64 (splM d lo), .int .i64 (splE d lo)]).ok wS) (by kernel_rfl) rfl rfl ?_
   apply a_take (L' := [true, false, false, false, false, false, false, false, false, false, false, false, false]) 0 rfl (by kernel_rfl) (by kernel_rfl) (by kernel_rfl) rfl rfl rfl rfl rfl (hw9.ok mem0)
   ·intro wS sS
    refine l_field fo47_1 rfl rfl rfl (l_nil ?_)
    exact e_got rfl
   apply a_take (L' := [true, true, false, false, false, false, false, false, false, false, false, false, false]) 1 rfl (by kernel_rfl) (by kernel_rfl) (by kernel_rfl) rfl rfl rfl rfl rfl (hw9.ok mem0)
   ·intro wS sS
    refine l_load_blk (blk_st sS) mem0 rfl rfl Tryz.underlying22 rfl rfl rfl ?_
    refine l_nil ?_
    exact e_got rfl
   apply a_take (L' := [true, true, true, false, false, false, false, false, false, false, false, false, false]) 2 rfl (by kernel_rfl) (by kernel_rfl) (by kernel_rfl) rfl rfl rfl rfl rfl (hw9.ok mem0)
   ·intro wS sS
    refine l_mul rfl rfl rfl rfl (w_u64 (by omega)) ?_
    refine l_nil ?_
    exact e_got rfl
   apply a_take (L' := [true, true, true, true, false, false, false, false, false, false, false, false, false]) 3 rfl (by kernel_rfl) (by kernel_rfl) (by kernel_rfl) rfl rfl rfl rfl rfl (hw9.ok mem0)
   ·intro wS sS
    refine l_add rfl rfl rfl rfl (w_u64 (by omega)) ?_
    refine l_nil ?_
    exact e_got rfl
   apply a_take (L' := [true, true, true, true, false, false, true, false, false, false, false, false, false]) 6 rfl (by kernel_rfl) (by kernel_rfl) (by kernel_rfl) rfl rfl rfl rfl rfl (hw9.ok mem0)
   ·intro wS sS
    refine l_field fo47_2 rfl rfl rfl (l_nil ?_)
    exact e_got rfl
   apply a_take (L' := [true, true, true, true, false, false, true, true, false, false, false, false, false]) 7 rfl (by kernel_rfl) (by kernel_rfl) (by kernel_rfl) rfl rfl rfl rfl rfl (hw9.ok mem0)
   ·intro wS sS
    refine l_load_blk (blk_st sS) mem0 rfl rfl Tryz.underlying3 rfl rfl rfl ?_
    refine l_nil ?_
    exact e_got rfl
   apply a_take (L' := [true, true, true, true, false, false, true, true, true, false, false, false, false]) 8 rfl (by kernel_rfl) (by kernel_rfl) (by kernel_rfl) rfl rfl rfl rfl rfl (hw9.ok mem0)
   ·intro wS sS
    refine l_sub rfl rfl rfl rfl (w_i64 (by omega)) ?_
    refine l_nil ?_
    exact e_got rfl
   apply a_take (L' := [true, true, true, true, false, false, true, true, true, true, false, false, false]) 9 rfl (by kernel_rfl) (by kernel_rfl) (by kernel_rfl) rfl rfl rfl rfl rfl (hw9.ok mem0)
   ·intro wS sS
    refine l_move rfl rfl rfl (l_nil ?_)
    exact e_got rfl
   apply a_take (L' := [true, true, true, true, false, false, true, true, true, true, true, false, false]) 10 rfl (by kernel_rfl) (by kernel_rfl) (by kernel_rfl) rfl rfl rfl rfl rfl (hw9.ok mem0)
   ·intro wS sS
    refine l_move rfl rfl rfl (l_nil ?_)
    exact e_got rfl
   refine a_one (L' := [true, true, true, true, true, false, true, true, true, true, true, false, false]) 4 (by kernel_rfl) rfl rfl ?_
   refine v_lit hw9 rfl rfl Tryz.underlying83 ti22 rfl (.cons rfl (by first | rfl | assumption) .nil) rfl rfl rfl (fun b12_4 w10 hw10 => ?_)
   try clear hw9
   refine l_nil ?_
   refine e_any (hw10.ok mem1) ?_
   refine a_one (L' := [true, true, true, true, true, true, true, true, true, true, true, false, false]) 5 (by kernel_rfl) rfl rfl ?_
   refine l_call rfl rfl Tryz.func29 rfl rfl (.cons rfl .nil) (numR _ [2 * splM d lo + 1] (U.one hM64) (by simp) w10 (hw10.ibl mem0)) ?_
   rintro vm w11 ⟨_, lm, rfl, hRm, hG⟩
   have hw11 := hG _ _ _ _ hw10
   try clear hG hw10
   simp only [List.cons_append, List.nil_append] at hw11
   have hRm2 : R16 lm (2 * splM d lo + 1) := by have := hRm; rw [show Ma.vb 18446744073709551616 [2 * splM d lo + 1] = 2 * splM d lo + 1 from nv_one _] at this; exact this
   refine l_nil ?_
   refine e_any (hw11.ok mem2) ?_
   refine a_one (L' := [true, true, true, true, true, true, true, true, true, true, true, true, false]) 11 (by kernel_rfl) rfl rfl ?_
   refine l_call rfl rfl Tryz.func117 rfl rfl (.cons rfl (.cons rfl (.cons rfl (.cons rfl .nil)))) (against3 vm lm (2 * splM d lo + 1) (splE d lo - 1) hRm2 (by have := R16.len_num (U.one hM64) hRm; simp at this; omega) (by omega) vn vd ln ld n dd hRn hRd hLn hLd w11 (hw11.io mem0) (hw11.iarg hn) (hw11.iarg hd)) ?_
   rintro _ w12 ⟨rfl, hG⟩
   have hw12 := hG _ _ _ _ hw11
   try clear hG hw11
   simp only [List.cons_append, List.nil_append] at hw12
   refine l_nil ?_
   refine e_any (hw12.ok mem2) ?_
   apply a_take (L' := [true, true, true, true, true, true, true, true, true, true, true, true, true]) 12 rfl (by kernel_rfl) (by kernel_rfl) (by kernel_rfl) rfl rfl rfl rfl rfl (hw12.ok mem2)
   ·intro wS sS
    refine l_assign rfl rfl rfl (l_nil ?_)
    exact e_got rfl
   refine a_done (by kernel_rfl) ?_
   refine e_then ?_
   refine c_keep [0, 9, 14] (.cons rfl (.cons rfl (.cons rfl .nil))) ?_
   refine c_seq (c_seq (c_region (l_move rfl rfl rfl ?_)))
   refine l_lss rfl rfl rfl rfl ?_
   refine l_move rfl rfl rfl ?_
   apply l_or 7 [0, 9] rfl rfl (.cons rfl (.cons rfl (.cons rfl .nil))) rfl rfl (fun _ => rfl) rfl rfl rfl
   ·intro hg13_3
    refine l_move rfl rfl rfl ?_
    refine l_eql rfl rfl rfl rfl ?_
    refine l_move rfl rfl rfl ?_
    apply l_and 3 [0, 9, 69] rfl rfl (.cons rfl (.cons rfl (.cons rfl (.cons rfl .nil)))) rfl rfl (fun _ => rfl) rfl rfl rfl
    ·intro hg13_6
     refine l_move rfl rfl rfl ?_
     refine l_rem rfl rfl rfl rfl (by omega) (r_pos (by omega)) ?_
     refine l_eql rfl rfl rfl rfl ?_
     refine l_nil ?_
     exact e_stays rfl (.cons rfl (congrArg Value.bool (decide_eq_true hg13_6).symm) (.cons rfl rfl (.cons rfl rfl (.cons rfl rfl .nil))))
    refine l_nil ?_
    exact e_stays rfl (.cons rfl (congrArg Value.bool (decide_eq_false hg13_3).symm) (.cons rfl rfl (.cons rfl rfl .nil)))
   refine l_nil (e_then ?_)
   refine c_keep [0, 9, 77] (.cons rfl (.cons rfl (.cons rfl .nil))) ?_
   first | refine c_cond rfl (fun hc4 => ?_) (fun hc4 => ?_) | refine c_condb rfl (fun hc4 => ?_) (fun hc4 => ?_)
   ·skip
    refine c_seq (c_seq (c_region (l_move rfl rfl rfl (l_move rfl rfl rfl ?_))))
    refine l_callp rfl rfl Tryz.func92 rfl rfl (.cons rfl .nil) (greatest3 k d hk w12) ?_
    refine l_eql rfl rfl rfl rfl ?_
    refine l_nil (e_then ?_)
    refine c_keep [9, 81] (.cons rfl (.cons rfl .nil)) ?_
    first | refine c_cond rfl (fun hc5 => ?_) (fun hc5 => ?_) | refine c_condb rfl (fun hc5 => ?_) (fun hc5 => ?_)
    ·skip
     refine c_seq (c_region (l_assign rfl rfl rfl (l_assign rfl rfl rfl (l_assign rfl rfl rfl (l_nil ?_)))))
     refine e_then ?_
     refine c_keep [6, 7, 8] (.cons rfl (.cons rfl (.cons rfl .nil))) ?_
     refine c_ret ?_
     refine e_then_ret ?_
     refine e_then_ret ?_
     refine e_doneN Tryz.results98 (.tmp rfl (.tmp rfl (.tmp rfl .nil))) rfl ?_
     refine ⟨_, rfl, ?_⟩
     have hw13 := St.del (.tail (.tail .head)) hw12
     try clear hw12
     have hw14 := St.del (.tail .head) hw13
     try clear hw13
     have hw15 := St.del .head hw14
     try clear hw14
     have hhalf : (if 0 ≤ splE d lo - 1 then cmpI ((2 * splM d lo + 1) * dd * 2 ^ (splE d lo - 1).toNat) n else cmpI ((2 * splM d lo + 1) * dd) (n * 2 ^ (0 - (splE d lo - 1)).toNat)) = cmpI ((fv d.H lo + fv d.H (lo + 1)) * dd) (2 * N) := by
      rw [against_eq (l := d.l + 1) (by omega), hfs.2.2.2.2.1, hfs.2.2.2.2.2, ← Int.add_mul, show splM d lo + (splM d lo + 1) = 2 * splM d lo + 1 by omega, show (splE d lo - 1 + ((d.l + 1 : Nat) : Int)).toNat = (splE d lo + d.l).toNat by omega, hN, Int.pow_succ, ← Int.mul_assoc, Int.mul_comm (n * 2 ^ d.l) 2]
     rw [hhalf] at hc4
     have hu : upR d.H N dd lo := by
      unfold upR
      rcases hc4 with h | h
      ·exact .inl (cmpI_lt0.1 h)
      ·exact .inr ⟨cmpI_0.1 h.1, h.2⟩
     refine ⟨(0, false, 34), rfl, ?_, hw15.grows⟩
     have := near_up hdp ⟨hl0, by omega⟩ hlo h2 hu
     rw [if_pos hc5] at this
     rw [← hN]
     exact this
    ·skip
     refine c_skip (e_then ?_)
     refine c_keep [9] (.cons rfl .nil) ?_
     refine c_seq (c_region (l_move rfl rfl rfl ?_))
     refine l_add rfl rfl rfl rfl (w_u64 (by omega)) ?_
     refine l_assign rfl rfl rfl (l_assign rfl rfl rfl (l_assign rfl rfl rfl (l_nil (e_then ?_))))
     refine c_keep [6, 7, 8] (.cons rfl (.cons rfl (.cons rfl .nil))) ?_
     refine c_ret ?_
     refine e_then_ret ?_
     refine e_doneN Tryz.results98 (.tmp rfl (.tmp rfl (.tmp rfl .nil))) rfl ?_
     refine ⟨_, rfl, ?_⟩
     have hw16 := St.del (.tail (.tail .head)) hw12
     try clear hw12
     have hw17 := St.del (.tail .head) hw16
     try clear hw16
     have hw18 := St.del .head hw17
     try clear hw17
     have hhalf : (if 0 ≤ splE d lo - 1 then cmpI ((2 * splM d lo + 1) * dd * 2 ^ (splE d lo - 1).toNat) n else cmpI ((2 * splM d lo + 1) * dd) (n * 2 ^ (0 - (splE d lo - 1)).toNat)) = cmpI ((fv d.H lo + fv d.H (lo + 1)) * dd) (2 * N) := by
      rw [against_eq (l := d.l + 1) (by omega), hfs.2.2.2.2.1, hfs.2.2.2.2.2, ← Int.add_mul, show splM d lo + (splM d lo + 1) = 2 * splM d lo + 1 by omega, show (splE d lo - 1 + ((d.l + 1 : Nat) : Int)).toNat = (splE d lo + d.l).toNat by omega, hN, Int.pow_succ, ← Int.mul_assoc, Int.mul_comm (n * 2 ^ d.l) 2]
     rw [hhalf] at hc4
     have hu : upR d.H N dd lo := by
      unfold upR
      rcases hc4 with h | h
      ·exact .inl (cmpI_lt0.1 h)
      ·exact .inr ⟨cmpI_0.1 h.1, h.2⟩
     refine ⟨(lo + 1, false, 0), rfl, ?_, hw18.grows⟩
     have := near_up hdp ⟨hl0, by omega⟩ hlo h2 hu
     rw [if_neg hc5] at this
     rw [← hN]
     exact this
   ·skip
    refine c_skip (e_then ?_)
    refine c_keep [9] (.cons rfl .nil) ?_
    refine c_seq (c_region (l_move rfl rfl rfl (l_assign rfl rfl rfl (l_assign rfl rfl rfl (l_assign rfl rfl rfl ?_)))))
    refine l_nil (e_then ?_)
    refine c_keep [6, 7, 8] (.cons rfl (.cons rfl (.cons rfl .nil))) ?_
    refine c_ret ?_
    refine e_doneN Tryz.results98 (.tmp rfl (.tmp rfl (.tmp rfl .nil))) rfl ?_
    refine ⟨_, rfl, ?_⟩
    have hw19 := St.del (.tail (.tail .head)) hw12
    try clear hw12
    have hw20 := St.del (.tail .head) hw19
    try clear hw19
    have hw21 := St.del .head hw20
    try clear hw20
    have hhalf : (if 0 ≤ splE d lo - 1 then cmpI ((2 * splM d lo + 1) * dd * 2 ^ (splE d lo - 1).toNat) n else cmpI ((2 * splM d lo + 1) * dd) (n * 2 ^ (0 - (splE d lo - 1)).toNat)) = cmpI ((fv d.H lo + fv d.H (lo + 1)) * dd) (2 * N) := by
     rw [against_eq (l := d.l + 1) (by omega), hfs.2.2.2.2.1, hfs.2.2.2.2.2, ← Int.add_mul, show splM d lo + (splM d lo + 1) = 2 * splM d lo + 1 by omega, show (splE d lo - 1 + ((d.l + 1 : Nat) : Int)).toNat = (splE d lo + d.l).toNat by omega, hN, Int.pow_succ, ← Int.mul_assoc, Int.mul_comm (n * 2 ^ d.l) 2]
    rw [hhalf] at hc4
    refine ⟨(lo, false, 0), rfl, ?_, hw21.grows⟩
    have hne : ¬ fv d.H lo * dd = N := fun h => hc3 (by rw [← hN]; exact cmpI_0.2 h)
    have hu : ¬ upR d.H N dd lo := fun h => hc4 (by unfold upR at h; rcases h with h | h; exact .inl (cmpI_lt0.2 h); exact .inr ⟨cmpI_0.2 h.1, h.2⟩)
    rw [← hN]
    exact near_down hdp ⟨hl0, by omega⟩ hlo h2 hne hu
theorem R16.one1 : R16 [1] 1 := ⟨fun x hx => by rw [List.mem_singleton.1 hx]; omega, ⟨fun _ => by omega, trivial⟩, by decide⟩
end Go.Proofs.YtojjlipcjdaejaaGreatDoor.W
