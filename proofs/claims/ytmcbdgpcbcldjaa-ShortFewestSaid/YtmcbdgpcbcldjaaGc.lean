/- walks of bits.Class, Split, Next, Prev, order, Cmp, NaN, Inf -/
import Derived.Test.YtmcbdgpcbcldjaaGb
set_option linter.unusedVariables false
set_option linter.unusedSimpArgs false
set_option maxRecDepth 10000
namespace Go.Proofs.Ytmcbdgpcbcldjaa.W
open Go.Vc Go.RowKit

/-- an answer about bits of a kind, if they are of it -/
def ofk {α : Type} (k b : Int) (bad : Int → α) (f : Kd → α) : α := if chk k b = 0 then match kd k with | some d => f d | none => bad 30 else bad (chk k b)
theorem ofk_bad {α : Type} {k b : Int} {bad : Int → α} {f : Kd → α} (h : ¬ chk k b = 0) : ofk k b bad f = bad (chk k b) := if_neg h
theorem ofk_ok {α : Type} {k b : Int} {d : Kd} {bad : Int → α} {f : Kd → α} (hd : kd k = some d) (h : chk k b = 0) : ofk k b bad f = f d := by unfold ofk; rw [if_pos h, hd]
theorem ShR.at {k m l a : Int} {b : Bool} {d : Kd} (h : ShR k m l a b) (hd : kd k = some d) : m = d.M ∧ l = -(d.l : Int) ∧ a = d.A := by
  unfold ShR at h
  rw [hd] at h
  exact ⟨h.1, h.2.1, h.2.2.1⟩
theorem shr_H (d : Kd) {b : Int} (_h : 0 ≤ b) : b.fdiv (2 ^ (min ((d.M : Int) - 1).toNat 64)) = b / d.H := by
  cases d <;> exact Int.fdiv_eq_ediv_of_nonneg _ (by decide)
theorem Kd.hHn (d : Kd) : d.M - 1 < 64 ∧ d.H = 2 ^ (d.M - 1) := by cases d <;> exact ⟨by decide, rfl⟩
theorem and_H (d : Kd) {b : Int} (h : 0 ≤ b ∧ b ≤ 18446744073709551615) : bitw .and .u64 b (d.H - 1) = b % d.H := by
  rw [d.hHn.2]; exact and_ones (by have := d.hHn.1; omega) h
theorem or_H (d : Kd) {b : Int} (h : 0 ≤ b ∧ b < d.H) : bitw .or .u64 b d.H = b + d.H := by
  rw [d.hHn.2] at h ⊢; exact top_or d.hHn.1 h
theorem quo_H (d : Kd) {s : Int} (h : 0 ≤ s) (h2 : s < d.I) : 0 ≤ s / d.H ∧ s / d.H ≤ 2046 ∧ (0 < s / d.H ↔ d.H ≤ s) ∧ 0 ≤ s % d.H ∧ s % d.H < d.H := by
  cases d
  · have h3 : s < 2139095040 := h2
    show 0 ≤ s / 8388608 ∧ s / 8388608 ≤ 2046 ∧ (0 < s / 8388608 ↔ 8388608 ≤ s) ∧ 0 ≤ s % 8388608 ∧ s % 8388608 < 8388608
    omega
  · have h3 : s < 9218868437227405312 := h2
    show 0 ≤ s / 4503599627370496 ∧ s / 4503599627370496 ≤ 2046 ∧ (0 < s / 4503599627370496 ↔ 4503599627370496 ≤ s) ∧ 0 ≤ s % 4503599627370496 ∧ s % 4503599627370496 < 4503599627370496
    omega
theorem neg_S (d : Kd) (b : Int) : decide (¬ (if d.S ≤ b then d.S else 0) = 0) = decide (d.S ≤ b) := by
  have := d.bd
  split
  · rename_i h; rw [decide_eq_true (by omega), decide_eq_true h]
  · rename_i h; rw [decide_eq_false (by omega), decide_eq_false h]
def cls (d : Kd) (b : Int) : Int := if b % d.S = 0 then 1 else if b % d.S < d.H then 2 else if b % d.S < d.I then 3 else if b % d.S = d.I then 4 else 5
def clsF (k b : Int) : Int × Int := ofk k b (fun e => (0, e)) fun d => (cls d b, 0)
/-- a float's sign, whole number, exponent -/
def splM (d : Kd) (b : Int) : Int := if b % d.S < d.H then b % d.S else b % d.S % d.H + d.H
def splE (d : Kd) (b : Int) : Int := if b % d.S < d.H then -(d.l : Int) else -(d.l : Int) + (b % d.S / d.H - 1)
def splF (k b : Int) : Bool × Int × Int × Int := ofk k b (fun e => (false, 0, 0, e)) fun d => if d.I ≤ b % d.S then (false, 0, 0, 32) else (decide (d.S ≤ b), splM d b, splE d b, 0)
def nx (d : Kd) (b : Int) : Int × Int := if d.I ≤ b % d.S then (0, 32) else if b % d.S = 0 then (1, 0) else if d.S ≤ b then (b - 1, 0) else if b + 1 = d.I then (0, 34) else (b + 1, 0)
def nxF (k b : Int) : Int × Int := ofk k b (fun e => (0, e)) fun d => nx d b
def prF (k b : Int) : Int × Int := ofk k b (fun e => (0, e)) fun d => if (nx d (turnS d b)).2 = 0 then (turnS d (nx d (turnS d b)).1, 0) else (0, (nx d (turnS d b)).2)
def ordS (d : Kd) (b : Int) : Int := if d.S ≤ b then -(b % d.S) else b % d.S
def cmF (k a b : Int) : Int × Int := if ¬ chk k a = 0 then (0, chk k a) else ofk k b (fun e => (0, e)) fun d => if d.I < a % d.S ∨ d.I < b % d.S then (0, 32) else (cmpI (ordS d a) (ordS d b), 0)
def nanS : Kd → Int | .f32 => 2143289344 | .f64 => 9221120237041090560
theorem or_nan (d : Kd) : bitw .or .u64 d.I (IntKind.u64.wrap (1 * 2 ^ (min ((d.M : Int) - 2).toNat 64))) = nanS d := by cases d <;> decide
theorem turn_bd (d : Kd) {b : Int} (h : 0 ≤ b ∧ b < 2 * d.S) : 0 ≤ turnS d b ∧ turnS d b < 2 * d.S := by unfold turnS; split <;> omega
theorem nx_bd (d : Kd) {b : Int} (h : 0 ≤ b ∧ b < 2 * d.S) : 0 ≤ (nx d b).1 ∧ (nx d b).1 < 2 * d.S := by
  have := d.bd
  have := mod_S d h
  unfold nx
  repeat (split; · simp; omega)
  simp; omega

theorem classB (k b : Int) (hb : 0 ≤ b ∧ b ≤ 18446744073709551615) (w : World) :
    CallsV P 17 [.int .i64 k, .int .u64 b] w fun r w' => r = .tuple #[.int .i64 (clsF k b).1, .int .i64 (clsF k b).2] ∧ Grow w w' [] := by
  refine enterW Try.func17 rfl Try.ntmps17 rfl ?_
  have hw0 := St.start w
  refine c_seq ?_
  refine c_region ?_
  refine l_assign rfl rfl rfl ?_
  refine l_assign rfl rfl rfl ?_
  refine l_nil ?_
  refine e_then ?_
  refine c_keep [0, 1] (.cons rfl (.cons rfl .nil)) ?_
  refine c_seq ?_
  refine c_region ?_
  refine l_move rfl rfl rfl ?_
  refine l_move rfl rfl rfl ?_
  refine l_call rfl rfl Try.func44 rfl rfl (.cons rfl (.cons rfl .nil)) (ownB k b hb w) ?_
  rintro _ w1 ⟨m, l, a, e, rfl, hSh, he, hG⟩
  have hw1 := hG _ _ _ _ hw0
  try clear hG hw0
  simp only [List.cons_append, List.nil_append] at hw1
  refine l_move rfl rfl rfl ?_
  refine l_extract rfl rfl rfl rfl ?_
  refine l_extract rfl rfl rfl rfl ?_
  refine l_alloc hw1 ta61 rfl rfl (fun b1_6 w2 hw2 => ?_)
  try clear hw1
  refine l_store_blks hw2 .head (.zero (.zero (.zero .nil))) rfl tz61 rfl rfl (by first | (simp [Value.oneCell']; done) | (intro u hu; simp only [List.mem_cons, List.not_mem_nil, or_false] at hu; rcases hu with rfl | rfl | rfl <;> first | rfl | assumption)) (fun w3 hw3 => ?_)
  try clear hw2
  refine l_assign rfl rfl rfl ?_
  refine l_nil ?_
  refine e_then ?_
  refine c_keep [1, 6, 7] (.cons rfl (.cons rfl (.cons rfl .nil))) ?_
  refine c_seq ?_
  refine c_seq ?_
  refine c_region ?_
  refine l_move rfl rfl rfl ?_
  refine l_neq rfl rfl rfl rfl ?_
  refine l_nil ?_
  refine e_then ?_
  refine c_keep [1, 6, 7, 15] (.cons rfl (.cons rfl (.cons rfl (.cons rfl .nil)))) ?_
  first | refine c_cond rfl (fun hc0 => ?_) (fun hc0 => ?_) | refine c_condb rfl (fun hc0 => ?_) (fun hc0 => ?_)
  · skip
    refine c_seq ?_
    refine c_region ?_
    refine l_move rfl rfl rfl ?_
    refine l_assign rfl rfl rfl ?_
    refine l_assign rfl rfl rfl ?_
    refine l_nil ?_
    refine e_then ?_
    refine c_keep [4, 5] (.cons rfl (.cons rfl .nil)) ?_
    refine c_ret ?_
    refine e_then_ret ?_
    refine e_done2 Try.results17 rfl rfl ?_
    refine ⟨_, rfl, ?_⟩
    have hw4 := St.del .head hw3
    try clear hw3
    refine ⟨?_, hw4.grows⟩
    subst he
    unfold clsF
    rw [ofk_bad hc0]
    all_goals rfl
  · skip
    obtain ⟨d, hd, hlt⟩ := chk_ok (k := k) (b := b) (by omega) hb.2
    have hk0 := chk_some hd hlt
    obtain ⟨rfl, rfl, rfl⟩ := hSh.at hd
    have hbd := d.bd
    have hms := mod_S d ⟨hb.1, hlt⟩
    refine c_skip ?_
    refine e_then ?_
    refine c_keep [1, 6] (.cons rfl (.cons rfl .nil)) ?_
    refine c_seq ?_
    refine c_region ?_
    refine l_move rfl rfl rfl ?_
    refine l_load_agg hw3 mem0 rfl rfl Try.underlying61 rfl tz61 rfl (.take (.take (.take .nil))) ?_
    refine l_call rfl rfl Try.func45 rfl rfl (.cons rfl .nil) (signB d w3) ?_
    rintro _ w5 ⟨rfl, hG⟩
    have hw5 := hG _ _ _ _ hw3
    try clear hG hw3
    simp only [List.cons_append, List.nil_append] at hw5
    refine l_bits rfl rfl rfl rfl rfl (andn_S d ⟨hb.1, hlt⟩) ?_
    refine l_assign rfl rfl rfl ?_
    refine l_nil ?_
    refine e_then ?_
    refine c_keep [1, 6] (.cons rfl (.cons rfl .nil)) ?_
    refine c_seq ?_
    refine c_block ?_
    refine c_seq ?_
    refine c_region ?_
    refine l_move rfl rfl rfl ?_
    refine l_eql rfl rfl rfl rfl ?_
    refine l_assign rfl rfl rfl ?_
    refine l_nil ?_
    refine e_then ?_
    refine c_keep [1, 6, 21] (.cons rfl (.cons rfl (.cons rfl .nil))) ?_
    first | refine c_cond rfl (fun hc1 => ?_) (fun hc1 => ?_) | refine c_condb rfl (fun hc1 => ?_) (fun hc1 => ?_)
    · skip
      refine c_seq ?_
      refine c_region ?_
      refine l_assign rfl rfl rfl ?_
      refine l_assign rfl rfl rfl ?_
      refine l_nil ?_
      refine e_then ?_
      refine c_keep [4, 5] (.cons rfl (.cons rfl .nil)) ?_
      refine c_ret ?_
      refine e_blk_ret ?_
      refine e_then_ret ?_
      refine e_done2 Try.results17 rfl rfl ?_
      refine ⟨_, rfl, ?_⟩
      have hw6 := St.del .head hw5
      try clear hw5
      refine ⟨?_, hw6.grows⟩
      unfold clsF
      rw [ofk_ok hd hk0]
      unfold cls
      rw [if_pos hc1]
    · skip
      refine c_seq ?_
      refine c_region ?_
      refine l_move rfl rfl rfl ?_
      refine l_field fo61_0 rfl rfl rfl ?_
      refine l_load_blk hw5 mem0 rfl rfl Try.underlying3 rfl rfl rfl ?_
      refine l_sub rfl rfl rfl rfl (w_i64 (by omega)) ?_
      refine l_shl rfl rfl rfl rfl (by omega) (sh_half d) ?_
      refine l_lss rfl rfl rfl rfl ?_
      refine l_assign rfl rfl rfl ?_
      refine l_nil ?_
      refine e_then ?_
      refine c_keep [1, 6, 24] (.cons rfl (.cons rfl (.cons rfl .nil))) ?_
      first | refine c_cond rfl (fun hc2 => ?_) (fun hc2 => ?_) | refine c_condb rfl (fun hc2 => ?_) (fun hc2 => ?_)
      · skip
        refine c_seq ?_
        refine c_region ?_
        refine l_assign rfl rfl rfl ?_
        refine l_assign rfl rfl rfl ?_
        refine l_nil ?_
        refine e_then ?_
        refine c_keep [4, 5] (.cons rfl (.cons rfl .nil)) ?_
        refine c_ret ?_
        refine e_blk_ret ?_
        refine e_then_ret ?_
        refine e_done2 Try.results17 rfl rfl ?_
        refine ⟨_, rfl, ?_⟩
        have hw7 := St.del .head hw5
        try clear hw5
        refine ⟨?_, hw7.grows⟩
        unfold clsF
        rw [ofk_ok hd hk0]
        unfold cls
        rw [if_neg hc1, if_pos hc2]
      · skip
        refine c_seq ?_
        refine c_region ?_
        refine l_move rfl rfl rfl ?_
        refine l_load_agg hw5 mem0 rfl rfl Try.underlying61 rfl tz61 rfl (.take (.take (.take .nil))) ?_
        refine l_call rfl rfl Try.func46 rfl rfl (.cons rfl .nil) (infB d w5) ?_
        rintro _ w8 ⟨rfl, hG⟩
        have hw8 := hG _ _ _ _ hw5
        try clear hG hw5
        simp only [List.cons_append, List.nil_append] at hw8
        refine l_lss rfl rfl rfl rfl ?_
        refine l_assign rfl rfl rfl ?_
        refine l_nil ?_
        refine e_then ?_
        refine c_keep [1, 6, 31] (.cons rfl (.cons rfl (.cons rfl .nil))) ?_
        first | refine c_cond rfl (fun hc3 => ?_) (fun hc3 => ?_) | refine c_condb rfl (fun hc3 => ?_) (fun hc3 => ?_)
        · skip
          refine c_seq ?_
          refine c_region ?_
          refine l_assign rfl rfl rfl ?_
          refine l_assign rfl rfl rfl ?_
          refine l_nil ?_
          refine e_then ?_
          refine c_keep [4, 5] (.cons rfl (.cons rfl .nil)) ?_
          refine c_ret ?_
          refine e_blk_ret ?_
          refine e_then_ret ?_
          refine e_done2 Try.results17 rfl rfl ?_
          refine ⟨_, rfl, ?_⟩
          have hw9 := St.del .head hw8
          try clear hw8
          refine ⟨?_, hw9.grows⟩
          unfold clsF
          rw [ofk_ok hd hk0]
          unfold cls
          rw [if_neg hc1, if_neg hc2, if_pos hc3]
        · skip
          refine c_seq ?_
          refine c_region ?_
          refine l_move rfl rfl rfl ?_
          refine l_load_agg hw8 mem0 rfl rfl Try.underlying61 rfl tz61 rfl (.take (.take (.take .nil))) ?_
          refine l_call rfl rfl Try.func46 rfl rfl (.cons rfl .nil) (infB d w8) ?_
          rintro _ w10 ⟨rfl, hG⟩
          have hw10 := hG _ _ _ _ hw8
          try clear hG hw8
          simp only [List.cons_append, List.nil_append] at hw10
          refine l_eql rfl rfl rfl rfl ?_
          refine l_assign rfl rfl rfl ?_
          refine l_nil ?_
          refine e_then ?_
          refine c_keep [36] (.cons rfl .nil) ?_
          first | refine c_cond rfl (fun hc4 => ?_) (fun hc4 => ?_) | refine c_condb rfl (fun hc4 => ?_) (fun hc4 => ?_)
          · skip
            refine c_seq ?_
            refine c_region ?_
            refine l_assign rfl rfl rfl ?_
            refine l_assign rfl rfl rfl ?_
            refine l_nil ?_
            refine e_then ?_
            refine c_keep [4, 5] (.cons rfl (.cons rfl .nil)) ?_
            refine c_ret ?_
            refine e_blk_ret ?_
            refine e_then_ret ?_
            refine e_done2 Try.results17 rfl rfl ?_
            refine ⟨_, rfl, ?_⟩
            have hw11 := St.del .head hw10
            try clear hw10
            refine ⟨?_, hw11.grows⟩
            unfold clsF
            rw [ofk_ok hd hk0]
            unfold cls
            rw [if_neg hc1, if_neg hc2, if_neg hc3, if_pos hc4]
          · skip
            refine c_skip ?_
            refine e_blk ?_
            refine e_then ?_
            refine c_keep [] .nil ?_
            refine c_seq ?_
            refine c_region ?_
            refine l_assign rfl rfl rfl ?_
            refine l_assign rfl rfl rfl ?_
            refine l_nil ?_
            refine e_then ?_
            refine c_ret ?_
            refine e_done2 Try.results17 rfl rfl ?_
            refine ⟨_, rfl, ?_⟩
            have hw12 := St.del .head hw10
            try clear hw10
            refine ⟨?_, hw12.grows⟩
            unfold clsF
            rw [ofk_ok hd hk0]
            unfold cls
            rw [if_neg hc1, if_neg hc2, if_neg hc3, if_neg hc4]
theorem splitB (k b : Int) (hb : 0 ≤ b ∧ b ≤ 18446744073709551615) (w : World) :
    CallsV P 18 [.int .i64 k, .int .u64 b] w fun r w' => r = .tuple #[.agg #[.bool (splF k b).1, .int .u64 (splF k b).2.1, .int .i64 (splF k b).2.2.1], .int .i64 (splF k b).2.2.2] ∧ Grow w w' [] := by
  refine enterW Try.func18 rfl Try.ntmps18 rfl ?_
  have hw0 := St.start w
  refine c_seq ?_
  refine c_region ?_
  refine l_alloc hw0 ta27 rfl rfl (fun b0_0 w1 hw1 => ?_)
  try clear hw0
  refine l_assign rfl rfl rfl ?_
  refine l_nil ?_
  refine e_then ?_
  refine c_keep [0, 1, 4] (.cons rfl (.cons rfl (.cons rfl .nil))) ?_
  refine c_seq ?_
  refine c_region ?_
  refine l_move rfl rfl rfl ?_
  refine l_move rfl rfl rfl ?_
  refine l_call rfl rfl Try.func44 rfl rfl (.cons rfl (.cons rfl .nil)) (ownB k b hb w1) ?_
  rintro _ w2 ⟨m, l, a, e, rfl, hSh, he, hG⟩
  have hw2 := hG _ _ _ _ hw1
  try clear hG hw1
  simp only [List.cons_append, List.nil_append] at hw2
  refine l_move rfl rfl rfl ?_
  refine l_extract rfl rfl rfl rfl ?_
  refine l_extract rfl rfl rfl rfl ?_
  refine l_alloc hw2 ta61 rfl rfl (fun b1_6 w3 hw3 => ?_)
  try clear hw2
  refine l_store_blks hw3 .head (.zero (.zero (.zero .nil))) rfl tz61 rfl rfl (by first | (simp [Value.oneCell']; done) | (intro u hu; simp only [List.mem_cons, List.not_mem_nil, or_false] at hu; rcases hu with rfl | rfl | rfl <;> first | rfl | assumption)) (fun w4 hw4 => ?_)
  try clear hw3
  refine l_assign rfl rfl rfl ?_
  refine l_nil ?_
  refine e_then ?_
  refine c_keep [1, 4, 6, 7] (.cons rfl (.cons rfl (.cons rfl (.cons rfl .nil)))) ?_
  refine c_seq ?_
  refine c_seq ?_
  refine c_region ?_
  refine l_move rfl rfl rfl ?_
  refine l_neq rfl rfl rfl rfl ?_
  refine l_nil ?_
  refine e_then ?_
  refine c_keep [1, 4, 6, 7, 17] (.cons rfl (.cons rfl (.cons rfl (.cons rfl (.cons rfl .nil))))) ?_
  first | refine c_cond rfl (fun hc0 => ?_) (fun hc0 => ?_) | refine c_condb rfl (fun hc0 => ?_) (fun hc0 => ?_)
  · skip
    refine c_seq ?_
    refine c_region ?_
    refine l_buildS rfl rfl pl27 ta27 .nil ?_
    refine l_move rfl rfl rfl ?_
    refine l_store_blks hw4 (.tail .head) (.zero (.zero (.zero .nil))) rfl tz27 rfl rfl (by first | (simp [Value.oneCell']; done) | (intro u hu; simp only [List.mem_cons, List.not_mem_nil, or_false] at hu; rcases hu with rfl | rfl | rfl <;> first | rfl | assumption)) (fun w5 hw5 => ?_)
    try clear hw4
    refine l_assign rfl rfl rfl ?_
    refine l_nil ?_
    refine e_then ?_
    refine c_keep [4, 5] (.cons rfl (.cons rfl .nil)) ?_
    refine c_ret ?_
    refine e_then_ret ?_
    refine e_doneN Try.results18 (.cell rfl (load_agg_run hw5 mem1 Try.underlying27 rfl tz27 (.take (.take (.take .nil)))) (.tmp rfl .nil)) rfl ?_
    refine ⟨_, rfl, ?_⟩
    have hw6 := St.del (.tail .head) hw5
    try clear hw5
    have hw7 := St.del .head hw6
    try clear hw6
    refine ⟨?_, hw7.grows⟩
    subst he
    unfold splF
    rw [ofk_bad hc0]
    all_goals rfl
  · skip
    obtain ⟨d, hd, hlt⟩ := chk_ok (k := k) (b := b) (by omega) hb.2
    have hk0 := chk_some hd hlt
    obtain ⟨rfl, rfl, rfl⟩ := hSh.at hd
    have hbd := d.bd
    have hms := mod_S d ⟨hb.1, hlt⟩
    refine c_skip ?_
    refine e_then ?_
    refine c_keep [1, 4, 6] (.cons rfl (.cons rfl (.cons rfl .nil))) ?_
    refine c_seq ?_
    have hw8 := hw4.drewn
    try clear hw4
    refine c_any (n := 10) [false, false, false, false, false, false, false, false, false, false] (fun wS => (As.blk b1_6 61 [.int .i64 (d.M : Int), .int .i64 (-(d.l : Int)), .int .i64 (d.A : Int)]).ok wS) (by kernel_rfl) rfl rfl ?_
    apply a_take (L' := [true, false, false, false, false, false, false, false, false, false]) 0 rfl (by kernel_rfl) (by kernel_rfl) (by kernel_rfl) rfl rfl rfl rfl rfl (hw8.ok mem0)
    · intro wS sS
      refine l_move rfl rfl rfl ?_
      refine l_nil ?_
      exact e_got rfl
    apply a_take (L' := [true, true, false, false, false, false, false, false, false, false]) 1 rfl (by kernel_rfl) (by kernel_rfl) (by kernel_rfl) rfl rfl rfl rfl rfl (hw8.ok mem0)
    · intro wS sS
      refine l_load_agg (blk_st sS) mem0 rfl rfl Try.underlying61 rfl tz61 rfl (.take (.take (.take .nil))) ?_
      refine l_nil ?_
      exact e_got rfl
    apply a_take (L' := [true, true, false, false, false, true, false, false, false, false]) 5 rfl (by kernel_rfl) (by kernel_rfl) (by kernel_rfl) rfl rfl rfl rfl rfl (hw8.ok mem0)
    · intro wS sS
      refine l_field fo61_1 rfl rfl rfl ?_
      refine l_nil ?_
      exact e_got rfl
    apply a_take (L' := [true, true, false, false, false, true, true, false, false, false]) 6 rfl (by kernel_rfl) (by kernel_rfl) (by kernel_rfl) rfl rfl rfl rfl rfl (hw8.ok mem0)
    · intro wS sS
      refine l_load_blk (blk_st sS) mem0 rfl rfl Try.underlying3 rfl rfl rfl ?_
      refine l_nil ?_
      exact e_got rfl
    refine a_two (L' := [true, true, true, false, false, true, true, false, false, false]) (L'' := [true, true, false, false, false, true, true, false, true, false]) 2 8 (by kernel_rfl) rfl rfl rfl rfl ?_ ?_
    · skip
      refine l_call rfl rfl Try.func45 rfl rfl (.cons rfl .nil) (signB d w4.drew) ?_
      rintro _ w9 ⟨rfl, hG⟩
      have hw9 := hG _ _ _ _ hw8
      try clear hG hw8
      simp only [List.cons_append, List.nil_append] at hw9
      refine l_nil ?_
      refine e_any (hw9.ok mem0) ?_
      apply a_take (L' := [true, true, true, true, false, true, true, false, false, false]) 3 rfl (by kernel_rfl) (by kernel_rfl) (by kernel_rfl) rfl rfl rfl rfl rfl (hw9.ok mem0)
      · intro wS sS
        refine l_bits rfl rfl rfl rfl rfl (and_S d ⟨hb.1, hlt⟩) ?_
        refine l_nil ?_
        exact e_got rfl
      apply a_take (L' := [true, true, true, true, true, true, true, false, false, false]) 4 rfl (by kernel_rfl) (by kernel_rfl) (by kernel_rfl) rfl rfl rfl rfl rfl (hw9.ok mem0)
      · intro wS sS
        refine l_neq rfl rfl rfl rfl ?_
        refine l_nil ?_
        exact e_got rfl
      refine a_two (L' := [true, true, true, true, true, true, true, true, false, false]) (L'' := [true, true, true, true, true, true, true, false, true, false]) 7 8 (by kernel_rfl) rfl rfl rfl rfl ?_ ?_
      · skip
        refine l_buildS rfl rfl pl27 ta27 (.one rfl rfl (by first | rfl | assumption) .zero (.one rfl rfl (by first | rfl | assumption) (.succ (.succ .zero)) .nil)) ?_
        refine l_nil ?_
        refine e_any (hw9.ok mem0) ?_
        refine a_one (L' := [true, true, true, true, true, true, true, true, true, false]) 8 (by kernel_rfl) rfl rfl ?_
        refine l_alloc hw9 ta27 rfl rfl (fun b4_8 w10 hw10 => ?_)
        try clear hw9
        refine l_nil ?_
        refine e_any (hw10.ok mem1) ?_
        refine a_one (L' := [true, true, true, true, true, true, true, true, true, true]) 9 (by kernel_rfl) rfl rfl ?_
        refine l_store_blks hw10 .head (.zero (.zero (.zero .nil))) rfl tz27 rfl rfl (by first | (simp [Value.oneCell']; done) | (intro u hu; simp only [List.mem_cons, List.not_mem_nil, or_false] at hu; rcases hu with rfl | rfl | rfl <;> first | rfl | assumption)) (fun w11 hw11 => ?_)
        try clear hw10
        refine l_nil ?_
        refine e_any (hw11.ok mem1) ?_
        refine a_done (by kernel_rfl) ?_
        refine e_then ?_
        refine c_keep [1, 4, 6, 8] (.cons rfl (.cons rfl (.cons rfl (.cons rfl .nil)))) ?_
        refine c_seq ?_
        refine c_region ?_
        refine l_move rfl rfl rfl ?_
        refine l_load_agg hw11 mem1 rfl rfl Try.underlying61 rfl tz61 rfl (.take (.take (.take .nil))) ?_
        refine l_call rfl rfl Try.func45 rfl rfl (.cons rfl .nil) (signB d w11) ?_
        rintro _ w12 ⟨rfl, hG⟩
        have hw12 := hG _ _ _ _ hw11
        try clear hG hw11
        simp only [List.cons_append, List.nil_append] at hw12
        refine l_bits rfl rfl rfl rfl rfl (andn_S d ⟨hb.1, hlt⟩) ?_
        refine l_assign rfl rfl rfl ?_
        refine l_nil ?_
        refine e_then ?_
        refine c_keep [1, 4, 6, 8] (.cons rfl (.cons rfl (.cons rfl (.cons rfl .nil)))) ?_
        refine c_seq ?_
        refine c_seq ?_
        refine c_region ?_
        refine l_move rfl rfl rfl ?_
        refine l_load_agg hw12 mem1 rfl rfl Try.underlying61 rfl tz61 rfl (.take (.take (.take .nil))) ?_
        refine l_call rfl rfl Try.func46 rfl rfl (.cons rfl .nil) (infB d w12) ?_
        rintro _ w13 ⟨rfl, hG⟩
        have hw13 := hG _ _ _ _ hw12
        try clear hG hw12
        simp only [List.cons_append, List.nil_append] at hw13
        refine l_geq rfl rfl rfl rfl ?_
        refine l_nil ?_
        refine e_then ?_
        refine c_keep [1, 4, 6, 8, 35] (.cons rfl (.cons rfl (.cons rfl (.cons rfl (.cons rfl .nil))))) ?_
        first | refine c_cond rfl (fun hc1 => ?_) (fun hc1 => ?_) | refine c_condb rfl (fun hc1 => ?_) (fun hc1 => ?_)
        · skip
          refine c_seq ?_
          refine c_region ?_
          refine l_buildS rfl rfl pl27 ta27 .nil ?_
          refine l_store_blks hw13 (.tail (.tail .head)) (.zero (.zero (.zero .nil))) rfl tz27 rfl rfl (by first | (simp [Value.oneCell']; done) | (intro u hu; simp only [List.mem_cons, List.not_mem_nil, or_false] at hu; rcases hu with rfl | rfl | rfl <;> first | rfl | assumption)) (fun w14 hw14 => ?_)
          try clear hw13
          refine l_assign rfl rfl rfl ?_
          refine l_nil ?_
          refine e_then ?_
          refine c_keep [4, 5] (.cons rfl (.cons rfl .nil)) ?_
          refine c_ret ?_
          refine e_then_ret ?_
          refine e_doneN Try.results18 (.cell rfl (load_agg_run hw14 mem2 Try.underlying27 rfl tz27 (.take (.take (.take .nil)))) (.tmp rfl .nil)) rfl ?_
          refine ⟨_, rfl, ?_⟩
          have hw15 := St.del (.tail (.tail .head)) hw14
          try clear hw14
          have hw16 := St.del (.tail .head) hw15
          try clear hw15
          have hw17 := St.del .head hw16
          try clear hw16
          refine ⟨?_, hw17.grows⟩
          unfold splF
          rw [ofk_ok hd hk0, if_pos hc1]
        · skip
          have hqh := quo_H d (s := b % d.S) (by omega) (by omega)
          refine c_skip ?_
          refine e_then ?_
          refine c_keep [1, 4, 6, 8] (.cons rfl (.cons rfl (.cons rfl (.cons rfl .nil)))) ?_
          refine c_seq ?_
          refine c_region ?_
          refine l_move rfl rfl rfl ?_
          refine l_field fo27_1 rfl rfl rfl ?_
          refine l_store_blk hw13 .head (by repeat (first | exact .zero | apply SetAt.succ)) rfl tz22 rfl rfl (by first | rfl | assumption) (fun w18 hw18 => ?_)
          try clear hw13
          refine l_nil ?_
          refine e_then ?_
          refine c_keep [1, 4, 6, 8] (.cons rfl (.cons rfl (.cons rfl (.cons rfl .nil)))) ?_
          refine c_seq ?_
          refine c_seq ?_
          refine c_region ?_
          refine l_move rfl rfl rfl ?_
          refine l_field fo61_0 rfl rfl rfl ?_
          refine l_load_blk hw18 mem1 rfl rfl Try.underlying3 rfl rfl rfl ?_
          refine l_sub rfl rfl rfl rfl (w_i64 (by omega)) ?_
          refine l_shr rfl rfl rfl rfl (by omega) (shr_H d (by omega)) ?_
          refine l_assign rfl rfl rfl ?_
          refine l_nil ?_
          refine e_then ?_
          refine c_keep [1, 4, 6, 8, 9] (.cons rfl (.cons rfl (.cons rfl (.cons rfl (.cons rfl .nil))))) ?_
          refine c_seq ?_
          refine c_region ?_
          refine l_move rfl rfl rfl ?_
          refine l_gtr rfl rfl rfl rfl ?_
          refine l_nil ?_
          refine e_then ?_
          refine c_keep [1, 4, 6, 8, 9, 45] (.cons rfl (.cons rfl (.cons rfl (.cons rfl (.cons rfl (.cons rfl .nil)))))) ?_
          first | refine c_cond rfl (fun hc2 => ?_) (fun hc2 => ?_) | refine c_condb rfl (fun hc2 => ?_) (fun hc2 => ?_)
          · skip
            refine c_seq ?_
            have hw19 := hw18.drewn
            try clear hw18
            refine c_any (n := 14) [false, false, false, false, false, false, false, false, false, false, false, false, false, false] (fun wS => (As.blk b1_6 61 [.int .i64 (d.M : Int), .int .i64 (-(d.l : Int)), .int .i64 (d.A : Int)]).ok wS) (by kernel_rfl) rfl rfl ?_
            apply a_take (L' := [true, false, false, false, false, false, false, false, false, false, false, false, false, false]) 0 rfl (by kernel_rfl) (by kernel_rfl) (by kernel_rfl) rfl rfl rfl rfl rfl (hw19.ok mem1)
            · intro wS sS
              refine l_move rfl rfl rfl ?_
              refine l_nil ?_
              exact e_got rfl
            apply a_take (L' := [true, true, false, false, false, false, false, false, false, false, false, false, false, false]) 1 rfl (by kernel_rfl) (by kernel_rfl) (by kernel_rfl) rfl rfl rfl rfl rfl (hw19.ok mem1)
            · intro wS sS
              refine l_field fo61_0 rfl rfl rfl ?_
              refine l_nil ?_
              exact e_got rfl
            apply a_take (L' := [true, true, true, false, false, false, false, false, false, false, false, false, false, false]) 2 rfl (by kernel_rfl) (by kernel_rfl) (by kernel_rfl) rfl rfl rfl rfl rfl (hw19.ok mem1)
            · intro wS sS
              refine l_load_blk (blk_st sS) mem0 rfl rfl Try.underlying3 rfl rfl rfl ?_
              refine l_nil ?_
              exact e_got rfl
            apply a_take (L' := [true, true, true, true, false, false, false, false, false, false, false, false, false, false]) 3 rfl (by kernel_rfl) (by kernel_rfl) (by kernel_rfl) rfl rfl rfl rfl rfl (hw19.ok mem1)
            · intro wS sS
              refine l_sub rfl rfl rfl rfl (w_i64 (by omega)) ?_
              refine l_nil ?_
              exact e_got rfl
            apply a_take (L' := [true, true, true, true, true, false, false, false, false, false, false, false, false, false]) 4 rfl (by kernel_rfl) (by kernel_rfl) (by kernel_rfl) rfl rfl rfl rfl rfl (hw19.ok mem1)
            · intro wS sS
              refine l_shl rfl rfl rfl rfl (by omega) (sh_half d) ?_
              refine l_nil ?_
              exact e_got rfl
            apply a_take (L' := [true, true, true, true, true, true, false, false, false, false, false, false, false, false]) 5 rfl (by kernel_rfl) (by kernel_rfl) (by kernel_rfl) rfl rfl rfl rfl rfl (hw19.ok mem1)
            · intro wS sS
              refine l_sub rfl rfl rfl rfl (w_u64 (by omega)) ?_
              refine l_nil ?_
              exact e_got rfl
            apply a_take (L' := [true, true, true, true, true, true, true, false, false, false, false, false, false, false]) 6 rfl (by kernel_rfl) (by kernel_rfl) (by kernel_rfl) rfl rfl rfl rfl rfl (hw19.ok mem1)
            · intro wS sS
              refine l_bits rfl rfl rfl rfl rfl (and_H d (by omega)) ?_
              refine l_nil ?_
              exact e_got rfl
            apply a_take (L' := [true, true, true, true, true, true, true, true, false, false, false, false, false, false]) 7 rfl (by kernel_rfl) (by kernel_rfl) (by kernel_rfl) rfl rfl rfl rfl rfl (hw19.ok mem1)
            · intro wS sS
              refine l_field fo61_0 rfl rfl rfl ?_
              refine l_nil ?_
              exact e_got rfl
            apply a_take (L' := [true, true, true, true, true, true, true, true, true, false, false, false, false, false]) 8 rfl (by kernel_rfl) (by kernel_rfl) (by kernel_rfl) rfl rfl rfl rfl rfl (hw19.ok mem1)
            · intro wS sS
              refine l_load_blk (blk_st sS) mem0 rfl rfl Try.underlying3 rfl rfl rfl ?_
              refine l_nil ?_
              exact e_got rfl
            apply a_take (L' := [true, true, true, true, true, true, true, true, true, true, false, false, false, false]) 9 rfl (by kernel_rfl) (by kernel_rfl) (by kernel_rfl) rfl rfl rfl rfl rfl (hw19.ok mem1)
            · intro wS sS
              refine l_sub rfl rfl rfl rfl (w_i64 (by omega)) ?_
              refine l_nil ?_
              exact e_got rfl
            apply a_take (L' := [true, true, true, true, true, true, true, true, true, true, true, false, false, false]) 10 rfl (by kernel_rfl) (by kernel_rfl) (by kernel_rfl) rfl rfl rfl rfl rfl (hw19.ok mem1)
            · intro wS sS
              refine l_shl rfl rfl rfl rfl (by omega) (sh_half d) ?_
              refine l_nil ?_
              exact e_got rfl
            apply a_take (L' := [true, true, true, true, true, true, true, true, true, true, true, true, false, false]) 11 rfl (by kernel_rfl) (by kernel_rfl) (by kernel_rfl) rfl rfl rfl rfl rfl (hw19.ok mem1)
            · intro wS sS
              refine l_bits rfl rfl rfl rfl rfl (or_H d ⟨hqh.2.2.2.1, hqh.2.2.2.2⟩) ?_
              refine l_nil ?_
              exact e_got rfl
            apply a_take (L' := [true, true, true, true, true, true, true, true, true, true, true, true, true, false]) 12 rfl (by kernel_rfl) (by kernel_rfl) (by kernel_rfl) rfl rfl rfl rfl rfl (hw19.ok mem1)
            · intro wS sS
              refine l_field fo27_1 rfl rfl rfl ?_
              refine l_nil ?_
              exact e_got rfl
            refine a_one (L' := [true, true, true, true, true, true, true, true, true, true, true, true, true, true]) 13 (by kernel_rfl) rfl rfl ?_
            refine l_store_blk hw19 .head (by repeat (first | exact .zero | apply SetAt.succ)) rfl tz22 rfl rfl (by first | rfl | assumption) (fun w20 hw20 => ?_)
            try clear hw19
            refine l_nil ?_
            refine e_any (hw20.ok mem1) ?_
            refine a_done (by kernel_rfl) ?_
            refine e_then ?_
            refine c_keep [4, 8, 9] (.cons rfl (.cons rfl (.cons rfl .nil))) ?_
            refine c_region ?_
            refine l_field fo27_2 rfl rfl rfl ?_
            refine l_load_blk hw20 mem0 rfl rfl Try.underlying3 rfl rfl rfl ?_
            refine l_move rfl rfl rfl ?_
            refine l_conv rfl rfl Try.underlying22 Try.underlying3 rfl (w_i64 (by omega)) ?_
            refine l_sub rfl rfl rfl rfl (w_i64 (by omega)) ?_
            refine l_add rfl rfl rfl rfl (w_i64 (by omega)) ?_
            refine l_field fo27_2 rfl rfl rfl ?_
            refine l_store_blk hw20 .head (by repeat (first | exact .zero | apply SetAt.succ)) rfl tz3 rfl rfl (by first | rfl | assumption) (fun w21 hw21 => ?_)
            try clear hw20
            refine l_nil ?_
            refine e_then ?_
            refine c_keep [4, 8] (.cons rfl (.cons rfl .nil)) ?_
            refine c_seq ?_
            refine c_region ?_
            refine l_load_agg hw21 mem0 rfl rfl Try.underlying27 rfl tz27 rfl (.take (.take (.take .nil))) ?_
            refine l_store_blks hw21 (.tail (.tail .head)) (.zero (.zero (.zero .nil))) rfl tz27 rfl rfl (by first | (simp [Value.oneCell']; done) | (intro u hu; simp only [List.mem_cons, List.not_mem_nil, or_false] at hu; rcases hu with rfl | rfl | rfl <;> first | rfl | assumption)) (fun w22 hw22 => ?_)
            try clear hw21
            refine l_assign rfl rfl rfl ?_
            refine l_nil ?_
            refine e_then ?_
            refine c_keep [4, 5] (.cons rfl (.cons rfl .nil)) ?_
            refine c_ret ?_
            refine e_doneN Try.results18 (.cell rfl (load_agg_run hw22 mem2 Try.underlying27 rfl tz27 (.take (.take (.take .nil)))) (.tmp rfl .nil)) rfl ?_
            refine ⟨_, rfl, ?_⟩
            have hw23 := St.del (.tail (.tail .head)) hw22
            try clear hw22
            have hw24 := St.del (.tail .head) hw23
            try clear hw23
            have hw25 := St.del .head hw24
            try clear hw24
            refine ⟨?_, hw25.grows⟩
            unfold splF
            rw [ofk_ok hd hk0, if_neg hc1, neg_S]
            unfold splM splE
            rw [if_neg (by omega), if_neg (by omega)]
          · skip
            refine c_skip ?_
            refine e_then ?_
            refine c_keep [4, 8] (.cons rfl (.cons rfl .nil)) ?_
            refine c_seq ?_
            refine c_region ?_
            refine l_load_agg hw18 mem0 rfl rfl Try.underlying27 rfl tz27 rfl (.take (.take (.take .nil))) ?_
            refine l_store_blks hw18 (.tail (.tail .head)) (.zero (.zero (.zero .nil))) rfl tz27 rfl rfl (by first | (simp [Value.oneCell']; done) | (intro u hu; simp only [List.mem_cons, List.not_mem_nil, or_false] at hu; rcases hu with rfl | rfl | rfl <;> first | rfl | assumption)) (fun w26 hw26 => ?_)
            try clear hw18
            refine l_assign rfl rfl rfl ?_
            refine l_nil ?_
            refine e_then ?_
            refine c_keep [4, 5] (.cons rfl (.cons rfl .nil)) ?_
            refine c_ret ?_
            refine e_doneN Try.results18 (.cell rfl (load_agg_run hw26 mem2 Try.underlying27 rfl tz27 (.take (.take (.take .nil)))) (.tmp rfl .nil)) rfl ?_
            refine ⟨_, rfl, ?_⟩
            have hw27 := St.del (.tail (.tail .head)) hw26
            try clear hw26
            have hw28 := St.del (.tail .head) hw27
            try clear hw27
            have hw29 := St.del .head hw28
            try clear hw28
            refine ⟨?_, hw29.grows⟩
            unfold splF
            rw [ofk_ok hd hk0, if_neg hc1, neg_S]
            unfold splM splE
            rw [if_pos (by omega), if_pos (by omega)]
      · skip
        refine l_alloc hw9 ta27 rfl rfl (fun b4_8 w30 hw30 => ?_)
        try clear hw9
        refine l_nil ?_
        refine e_any (hw30.ok mem1) ?_
        refine a_one (L' := [true, true, true, true, true, true, true, true, true, false]) 7 (by kernel_rfl) rfl rfl ?_
        refine l_buildS rfl rfl pl27 ta27 (.one rfl rfl (by first | rfl | assumption) .zero (.one rfl rfl (by first | rfl | assumption) (.succ (.succ .zero)) .nil)) ?_
        refine l_nil ?_
        refine e_any (hw30.ok mem1) ?_
        refine a_one (L' := [true, true, true, true, true, true, true, true, true, true]) 9 (by kernel_rfl) rfl rfl ?_
        refine l_store_blks hw30 .head (.zero (.zero (.zero .nil))) rfl tz27 rfl rfl (by first | (simp [Value.oneCell']; done) | (intro u hu; simp only [List.mem_cons, List.not_mem_nil, or_false] at hu; rcases hu with rfl | rfl | rfl <;> first | rfl | assumption)) (fun w31 hw31 => ?_)
        try clear hw30
        refine l_nil ?_
        refine e_any (hw31.ok mem1) ?_
        refine a_done (by kernel_rfl) ?_
        refine e_then ?_
        refine c_keep [1, 4, 6, 8] (.cons rfl (.cons rfl (.cons rfl (.cons rfl .nil)))) ?_
        refine c_seq ?_
        refine c_region ?_
        refine l_move rfl rfl rfl ?_
        refine l_load_agg hw31 mem1 rfl rfl Try.underlying61 rfl tz61 rfl (.take (.take (.take .nil))) ?_
        refine l_call rfl rfl Try.func45 rfl rfl (.cons rfl .nil) (signB d w31) ?_
        rintro _ w32 ⟨rfl, hG⟩
        have hw32 := hG _ _ _ _ hw31
        try clear hG hw31
        simp only [List.cons_append, List.nil_append] at hw32
        refine l_bits rfl rfl rfl rfl rfl (andn_S d ⟨hb.1, hlt⟩) ?_
        refine l_assign rfl rfl rfl ?_
        refine l_nil ?_
        refine e_then ?_
        refine c_keep [1, 4, 6, 8] (.cons rfl (.cons rfl (.cons rfl (.cons rfl .nil)))) ?_
        refine c_seq ?_
        refine c_seq ?_
        refine c_region ?_
        refine l_move rfl rfl rfl ?_
        refine l_load_agg hw32 mem1 rfl rfl Try.underlying61 rfl tz61 rfl (.take (.take (.take .nil))) ?_
        refine l_call rfl rfl Try.func46 rfl rfl (.cons rfl .nil) (infB d w32) ?_
        rintro _ w33 ⟨rfl, hG⟩
        have hw33 := hG _ _ _ _ hw32
        try clear hG hw32
        simp only [List.cons_append, List.nil_append] at hw33
        refine l_geq rfl rfl rfl rfl ?_
        refine l_nil ?_
        refine e_then ?_
        refine c_keep [1, 4, 6, 8, 35] (.cons rfl (.cons rfl (.cons rfl (.cons rfl (.cons rfl .nil))))) ?_
        first | refine c_cond rfl (fun hc1 => ?_) (fun hc1 => ?_) | refine c_condb rfl (fun hc1 => ?_) (fun hc1 => ?_)
        · skip
          refine c_seq ?_
          refine c_region ?_
          refine l_buildS rfl rfl pl27 ta27 .nil ?_
          refine l_store_blks hw33 (.tail (.tail .head)) (.zero (.zero (.zero .nil))) rfl tz27 rfl rfl (by first | (simp [Value.oneCell']; done) | (intro u hu; simp only [List.mem_cons, List.not_mem_nil, or_false] at hu; rcases hu with rfl | rfl | rfl <;> first | rfl | assumption)) (fun w34 hw34 => ?_)
          try clear hw33
          refine l_assign rfl rfl rfl ?_
          refine l_nil ?_
          refine e_then ?_
          refine c_keep [4, 5] (.cons rfl (.cons rfl .nil)) ?_
          refine c_ret ?_
          refine e_then_ret ?_
          refine e_doneN Try.results18 (.cell rfl (load_agg_run hw34 mem2 Try.underlying27 rfl tz27 (.take (.take (.take .nil)))) (.tmp rfl .nil)) rfl ?_
          refine ⟨_, rfl, ?_⟩
          have hw35 := St.del (.tail (.tail .head)) hw34
          try clear hw34
          have hw36 := St.del (.tail .head) hw35
          try clear hw35
          have hw37 := St.del .head hw36
          try clear hw36
          refine ⟨?_, hw37.grows⟩
          unfold splF
          rw [ofk_ok hd hk0, if_pos hc1]
        · skip
          have hqh := quo_H d (s := b % d.S) (by omega) (by omega)
          refine c_skip ?_
          refine e_then ?_
          refine c_keep [1, 4, 6, 8] (.cons rfl (.cons rfl (.cons rfl (.cons rfl .nil)))) ?_
          refine c_seq ?_
          refine c_region ?_
          refine l_move rfl rfl rfl ?_
          refine l_field fo27_1 rfl rfl rfl ?_
          refine l_store_blk hw33 .head (by repeat (first | exact .zero | apply SetAt.succ)) rfl tz22 rfl rfl (by first | rfl | assumption) (fun w38 hw38 => ?_)
          try clear hw33
          refine l_nil ?_
          refine e_then ?_
          refine c_keep [1, 4, 6, 8] (.cons rfl (.cons rfl (.cons rfl (.cons rfl .nil)))) ?_
          refine c_seq ?_
          refine c_seq ?_
          refine c_region ?_
          refine l_move rfl rfl rfl ?_
          refine l_field fo61_0 rfl rfl rfl ?_
          refine l_load_blk hw38 mem1 rfl rfl Try.underlying3 rfl rfl rfl ?_
          refine l_sub rfl rfl rfl rfl (w_i64 (by omega)) ?_
          refine l_shr rfl rfl rfl rfl (by omega) (shr_H d (by omega)) ?_
          refine l_assign rfl rfl rfl ?_
          refine l_nil ?_
          refine e_then ?_
          refine c_keep [1, 4, 6, 8, 9] (.cons rfl (.cons rfl (.cons rfl (.cons rfl (.cons rfl .nil))))) ?_
          refine c_seq ?_
          refine c_region ?_
          refine l_move rfl rfl rfl ?_
          refine l_gtr rfl rfl rfl rfl ?_
          refine l_nil ?_
          refine e_then ?_
          refine c_keep [1, 4, 6, 8, 9, 45] (.cons rfl (.cons rfl (.cons rfl (.cons rfl (.cons rfl (.cons rfl .nil)))))) ?_
          first | refine c_cond rfl (fun hc2 => ?_) (fun hc2 => ?_) | refine c_condb rfl (fun hc2 => ?_) (fun hc2 => ?_)
          · skip
            refine c_seq ?_
            have hw39 := hw38.drewn
            try clear hw38
            refine c_any (n := 14) [false, false, false, false, false, false, false, false, false, false, false, false, false, false] (fun wS => (As.blk b1_6 61 [.int .i64 (d.M : Int), .int .i64 (-(d.l : Int)), .int .i64 (d.A : Int)]).ok wS) (by kernel_rfl) rfl rfl ?_
            apply a_take (L' := [true, false, false, false, false, false, false, false, false, false, false, false, false, false]) 0 rfl (by kernel_rfl) (by kernel_rfl) (by kernel_rfl) rfl rfl rfl rfl rfl (hw39.ok mem1)
            · intro wS sS
              refine l_move rfl rfl rfl ?_
              refine l_nil ?_
              exact e_got rfl
            apply a_take (L' := [true, true, false, false, false, false, false, false, false, false, false, false, false, false]) 1 rfl (by kernel_rfl) (by kernel_rfl) (by kernel_rfl) rfl rfl rfl rfl rfl (hw39.ok mem1)
            · intro wS sS
              refine l_field fo61_0 rfl rfl rfl ?_
              refine l_nil ?_
              exact e_got rfl
            apply a_take (L' := [true, true, true, false, false, false, false, false, false, false, false, false, false, false]) 2 rfl (by kernel_rfl) (by kernel_rfl) (by kernel_rfl) rfl rfl rfl rfl rfl (hw39.ok mem1)
            · intro wS sS
              refine l_load_blk (blk_st sS) mem0 rfl rfl Try.underlying3 rfl rfl rfl ?_
              refine l_nil ?_
              exact e_got rfl
            apply a_take (L' := [true, true, true, true, false, false, false, false, false, false, false, false, false, false]) 3 rfl (by kernel_rfl) (by kernel_rfl) (by kernel_rfl) rfl rfl rfl rfl rfl (hw39.ok mem1)
            · intro wS sS
              refine l_sub rfl rfl rfl rfl (w_i64 (by omega)) ?_
              refine l_nil ?_
              exact e_got rfl
            apply a_take (L' := [true, true, true, true, true, false, false, false, false, false, false, false, false, false]) 4 rfl (by kernel_rfl) (by kernel_rfl) (by kernel_rfl) rfl rfl rfl rfl rfl (hw39.ok mem1)
            · intro wS sS
              refine l_shl rfl rfl rfl rfl (by omega) (sh_half d) ?_
              refine l_nil ?_
              exact e_got rfl
            apply a_take (L' := [true, true, true, true, true, true, false, false, false, false, false, false, false, false]) 5 rfl (by kernel_rfl) (by kernel_rfl) (by kernel_rfl) rfl rfl rfl rfl rfl (hw39.ok mem1)
            · intro wS sS
              refine l_sub rfl rfl rfl rfl (w_u64 (by omega)) ?_
              refine l_nil ?_
              exact e_got rfl
            apply a_take (L' := [true, true, true, true, true, true, true, false, false, false, false, false, false, false]) 6 rfl (by kernel_rfl) (by kernel_rfl) (by kernel_rfl) rfl rfl rfl rfl rfl (hw39.ok mem1)
            · intro wS sS
              refine l_bits rfl rfl rfl rfl rfl (and_H d (by omega)) ?_
              refine l_nil ?_
              exact e_got rfl
            apply a_take (L' := [true, true, true, true, true, true, true, true, false, false, false, false, false, false]) 7 rfl (by kernel_rfl) (by kernel_rfl) (by kernel_rfl) rfl rfl rfl rfl rfl (hw39.ok mem1)
            · intro wS sS
              refine l_field fo61_0 rfl rfl rfl ?_
              refine l_nil ?_
              exact e_got rfl
            apply a_take (L' := [true, true, true, true, true, true, true, true, true, false, false, false, false, false]) 8 rfl (by kernel_rfl) (by kernel_rfl) (by kernel_rfl) rfl rfl rfl rfl rfl (hw39.ok mem1)
            · intro wS sS
              refine l_load_blk (blk_st sS) mem0 rfl rfl Try.underlying3 rfl rfl rfl ?_
              refine l_nil ?_
              exact e_got rfl
            apply a_take (L' := [true, true, true, true, true, true, true, true, true, true, false, false, false, false]) 9 rfl (by kernel_rfl) (by kernel_rfl) (by kernel_rfl) rfl rfl rfl rfl rfl (hw39.ok mem1)
            · intro wS sS
              refine l_sub rfl rfl rfl rfl (w_i64 (by omega)) ?_
              refine l_nil ?_
              exact e_got rfl
            apply a_take (L' := [true, true, true, true, true, true, true, true, true, true, true, false, false, false]) 10 rfl (by kernel_rfl) (by kernel_rfl) (by kernel_rfl) rfl rfl rfl rfl rfl (hw39.ok mem1)
            · intro wS sS
              refine l_shl rfl rfl rfl rfl (by omega) (sh_half d) ?_
              refine l_nil ?_
              exact e_got rfl
            apply a_take (L' := [true, true, true, true, true, true, true, true, true, true, true, true, false, false]) 11 rfl (by kernel_rfl) (by kernel_rfl) (by kernel_rfl) rfl rfl rfl rfl rfl (hw39.ok mem1)
            · intro wS sS
              refine l_bits rfl rfl rfl rfl rfl (or_H d ⟨hqh.2.2.2.1, hqh.2.2.2.2⟩) ?_
              refine l_nil ?_
              exact e_got rfl
            apply a_take (L' := [true, true, true, true, true, true, true, true, true, true, true, true, true, false]) 12 rfl (by kernel_rfl) (by kernel_rfl) (by kernel_rfl) rfl rfl rfl rfl rfl (hw39.ok mem1)
            · intro wS sS
              refine l_field fo27_1 rfl rfl rfl ?_
              refine l_nil ?_
              exact e_got rfl
            refine a_one (L' := [true, true, true, true, true, true, true, true, true, true, true, true, true, true]) 13 (by kernel_rfl) rfl rfl ?_
            refine l_store_blk hw39 .head (by repeat (first | exact .zero | apply SetAt.succ)) rfl tz22 rfl rfl (by first | rfl | assumption) (fun w40 hw40 => ?_)
            try clear hw39
            refine l_nil ?_
            refine e_any (hw40.ok mem1) ?_
            refine a_done (by kernel_rfl) ?_
            refine e_then ?_
            refine c_keep [4, 8, 9] (.cons rfl (.cons rfl (.cons rfl .nil))) ?_
            refine c_region ?_
            refine l_field fo27_2 rfl rfl rfl ?_
            refine l_load_blk hw40 mem0 rfl rfl Try.underlying3 rfl rfl rfl ?_
            refine l_move rfl rfl rfl ?_
            refine l_conv rfl rfl Try.underlying22 Try.underlying3 rfl (w_i64 (by omega)) ?_
            refine l_sub rfl rfl rfl rfl (w_i64 (by omega)) ?_
            refine l_add rfl rfl rfl rfl (w_i64 (by omega)) ?_
            refine l_field fo27_2 rfl rfl rfl ?_
            refine l_store_blk hw40 .head (by repeat (first | exact .zero | apply SetAt.succ)) rfl tz3 rfl rfl (by first | rfl | assumption) (fun w41 hw41 => ?_)
            try clear hw40
            refine l_nil ?_
            refine e_then ?_
            refine c_keep [4, 8] (.cons rfl (.cons rfl .nil)) ?_
            refine c_seq ?_
            refine c_region ?_
            refine l_load_agg hw41 mem0 rfl rfl Try.underlying27 rfl tz27 rfl (.take (.take (.take .nil))) ?_
            refine l_store_blks hw41 (.tail (.tail .head)) (.zero (.zero (.zero .nil))) rfl tz27 rfl rfl (by first | (simp [Value.oneCell']; done) | (intro u hu; simp only [List.mem_cons, List.not_mem_nil, or_false] at hu; rcases hu with rfl | rfl | rfl <;> first | rfl | assumption)) (fun w42 hw42 => ?_)
            try clear hw41
            refine l_assign rfl rfl rfl ?_
            refine l_nil ?_
            refine e_then ?_
            refine c_keep [4, 5] (.cons rfl (.cons rfl .nil)) ?_
            refine c_ret ?_
            refine e_doneN Try.results18 (.cell rfl (load_agg_run hw42 mem2 Try.underlying27 rfl tz27 (.take (.take (.take .nil)))) (.tmp rfl .nil)) rfl ?_
            refine ⟨_, rfl, ?_⟩
            have hw43 := St.del (.tail (.tail .head)) hw42
            try clear hw42
            have hw44 := St.del (.tail .head) hw43
            try clear hw43
            have hw45 := St.del .head hw44
            try clear hw44
            refine ⟨?_, hw45.grows⟩
            unfold splF
            rw [ofk_ok hd hk0, if_neg hc1, neg_S]
            unfold splM splE
            rw [if_neg (by omega), if_neg (by omega)]
          · skip
            refine c_skip ?_
            refine e_then ?_
            refine c_keep [4, 8] (.cons rfl (.cons rfl .nil)) ?_
            refine c_seq ?_
            refine c_region ?_
            refine l_load_agg hw38 mem0 rfl rfl Try.underlying27 rfl tz27 rfl (.take (.take (.take .nil))) ?_
            refine l_store_blks hw38 (.tail (.tail .head)) (.zero (.zero (.zero .nil))) rfl tz27 rfl rfl (by first | (simp [Value.oneCell']; done) | (intro u hu; simp only [List.mem_cons, List.not_mem_nil, or_false] at hu; rcases hu with rfl | rfl | rfl <;> first | rfl | assumption)) (fun w46 hw46 => ?_)
            try clear hw38
            refine l_assign rfl rfl rfl ?_
            refine l_nil ?_
            refine e_then ?_
            refine c_keep [4, 5] (.cons rfl (.cons rfl .nil)) ?_
            refine c_ret ?_
            refine e_doneN Try.results18 (.cell rfl (load_agg_run hw46 mem2 Try.underlying27 rfl tz27 (.take (.take (.take .nil)))) (.tmp rfl .nil)) rfl ?_
            refine ⟨_, rfl, ?_⟩
            have hw47 := St.del (.tail (.tail .head)) hw46
            try clear hw46
            have hw48 := St.del (.tail .head) hw47
            try clear hw47
            have hw49 := St.del .head hw48
            try clear hw48
            refine ⟨?_, hw49.grows⟩
            unfold splF
            rw [ofk_ok hd hk0, if_neg hc1, neg_S]
            unfold splM splE
            rw [if_pos (by omega), if_pos (by omega)]
    · skip
      refine l_alloc hw8 ta27 rfl rfl (fun b4_8 w50 hw50 => ?_)
      try clear hw8
      refine l_nil ?_
      refine e_any (hw50.ok mem1) ?_
      refine a_one (L' := [true, true, true, false, false, true, true, false, true, false]) 2 (by kernel_rfl) rfl rfl ?_
      refine l_call rfl rfl Try.func45 rfl rfl (.cons rfl .nil) (signB d w50) ?_
      rintro _ w51 ⟨rfl, hG⟩
      have hw51 := hG _ _ _ _ hw50
      try clear hG hw50
      simp only [List.cons_append, List.nil_append] at hw51
      refine l_nil ?_
      refine e_any (hw51.ok mem1) ?_
      apply a_take (L' := [true, true, true, true, false, true, true, false, true, false]) 3 rfl (by kernel_rfl) (by kernel_rfl) (by kernel_rfl) rfl rfl rfl rfl rfl (hw51.ok mem1)
      · intro wS sS
        refine l_bits rfl rfl rfl rfl rfl (and_S d ⟨hb.1, hlt⟩) ?_
        refine l_nil ?_
        exact e_got rfl
      apply a_take (L' := [true, true, true, true, true, true, true, false, true, false]) 4 rfl (by kernel_rfl) (by kernel_rfl) (by kernel_rfl) rfl rfl rfl rfl rfl (hw51.ok mem1)
      · intro wS sS
        refine l_neq rfl rfl rfl rfl ?_
        refine l_nil ?_
        exact e_got rfl
      refine a_one (L' := [true, true, true, true, true, true, true, true, true, false]) 7 (by kernel_rfl) rfl rfl ?_
      refine l_buildS rfl rfl pl27 ta27 (.one rfl rfl (by first | rfl | assumption) .zero (.one rfl rfl (by first | rfl | assumption) (.succ (.succ .zero)) .nil)) ?_
      refine l_nil ?_
      refine e_any (hw51.ok mem1) ?_
      refine a_one (L' := [true, true, true, true, true, true, true, true, true, true]) 9 (by kernel_rfl) rfl rfl ?_
      refine l_store_blks hw51 .head (.zero (.zero (.zero .nil))) rfl tz27 rfl rfl (by first | (simp [Value.oneCell']; done) | (intro u hu; simp only [List.mem_cons, List.not_mem_nil, or_false] at hu; rcases hu with rfl | rfl | rfl <;> first | rfl | assumption)) (fun w52 hw52 => ?_)
      try clear hw51
      refine l_nil ?_
      refine e_any (hw52.ok mem1) ?_
      refine a_done (by kernel_rfl) ?_
      refine e_then ?_
      refine c_keep [1, 4, 6, 8] (.cons rfl (.cons rfl (.cons rfl (.cons rfl .nil)))) ?_
      refine c_seq ?_
      refine c_region ?_
      refine l_move rfl rfl rfl ?_
      refine l_load_agg hw52 mem1 rfl rfl Try.underlying61 rfl tz61 rfl (.take (.take (.take .nil))) ?_
      refine l_call rfl rfl Try.func45 rfl rfl (.cons rfl .nil) (signB d w52) ?_
      rintro _ w53 ⟨rfl, hG⟩
      have hw53 := hG _ _ _ _ hw52
      try clear hG hw52
      simp only [List.cons_append, List.nil_append] at hw53
      refine l_bits rfl rfl rfl rfl rfl (andn_S d ⟨hb.1, hlt⟩) ?_
      refine l_assign rfl rfl rfl ?_
      refine l_nil ?_
      refine e_then ?_
      refine c_keep [1, 4, 6, 8] (.cons rfl (.cons rfl (.cons rfl (.cons rfl .nil)))) ?_
      refine c_seq ?_
      refine c_seq ?_
      refine c_region ?_
      refine l_move rfl rfl rfl ?_
      refine l_load_agg hw53 mem1 rfl rfl Try.underlying61 rfl tz61 rfl (.take (.take (.take .nil))) ?_
      refine l_call rfl rfl Try.func46 rfl rfl (.cons rfl .nil) (infB d w53) ?_
      rintro _ w54 ⟨rfl, hG⟩
      have hw54 := hG _ _ _ _ hw53
      try clear hG hw53
      simp only [List.cons_append, List.nil_append] at hw54
      refine l_geq rfl rfl rfl rfl ?_
      refine l_nil ?_
      refine e_then ?_
      refine c_keep [1, 4, 6, 8, 35] (.cons rfl (.cons rfl (.cons rfl (.cons rfl (.cons rfl .nil))))) ?_
      first | refine c_cond rfl (fun hc1 => ?_) (fun hc1 => ?_) | refine c_condb rfl (fun hc1 => ?_) (fun hc1 => ?_)
      · skip
        refine c_seq ?_
        refine c_region ?_
        refine l_buildS rfl rfl pl27 ta27 .nil ?_
        refine l_store_blks hw54 (.tail (.tail .head)) (.zero (.zero (.zero .nil))) rfl tz27 rfl rfl (by first | (simp [Value.oneCell']; done) | (intro u hu; simp only [List.mem_cons, List.not_mem_nil, or_false] at hu; rcases hu with rfl | rfl | rfl <;> first | rfl | assumption)) (fun w55 hw55 => ?_)
        try clear hw54
        refine l_assign rfl rfl rfl ?_
        refine l_nil ?_
        refine e_then ?_
        refine c_keep [4, 5] (.cons rfl (.cons rfl .nil)) ?_
        refine c_ret ?_
        refine e_then_ret ?_
        refine e_doneN Try.results18 (.cell rfl (load_agg_run hw55 mem2 Try.underlying27 rfl tz27 (.take (.take (.take .nil)))) (.tmp rfl .nil)) rfl ?_
        refine ⟨_, rfl, ?_⟩
        have hw56 := St.del (.tail (.tail .head)) hw55
        try clear hw55
        have hw57 := St.del (.tail .head) hw56
        try clear hw56
        have hw58 := St.del .head hw57
        try clear hw57
        refine ⟨?_, hw58.grows⟩
        unfold splF
        rw [ofk_ok hd hk0, if_pos hc1]
      · skip
        have hqh := quo_H d (s := b % d.S) (by omega) (by omega)
        refine c_skip ?_
        refine e_then ?_
        refine c_keep [1, 4, 6, 8] (.cons rfl (.cons rfl (.cons rfl (.cons rfl .nil)))) ?_
        refine c_seq ?_
        refine c_region ?_
        refine l_move rfl rfl rfl ?_
        refine l_field fo27_1 rfl rfl rfl ?_
        refine l_store_blk hw54 .head (by repeat (first | exact .zero | apply SetAt.succ)) rfl tz22 rfl rfl (by first | rfl | assumption) (fun w59 hw59 => ?_)
        try clear hw54
        refine l_nil ?_
        refine e_then ?_
        refine c_keep [1, 4, 6, 8] (.cons rfl (.cons rfl (.cons rfl (.cons rfl .nil)))) ?_
        refine c_seq ?_
        refine c_seq ?_
        refine c_region ?_
        refine l_move rfl rfl rfl ?_
        refine l_field fo61_0 rfl rfl rfl ?_
        refine l_load_blk hw59 mem1 rfl rfl Try.underlying3 rfl rfl rfl ?_
        refine l_sub rfl rfl rfl rfl (w_i64 (by omega)) ?_
        refine l_shr rfl rfl rfl rfl (by omega) (shr_H d (by omega)) ?_
        refine l_assign rfl rfl rfl ?_
        refine l_nil ?_
        refine e_then ?_
        refine c_keep [1, 4, 6, 8, 9] (.cons rfl (.cons rfl (.cons rfl (.cons rfl (.cons rfl .nil))))) ?_
        refine c_seq ?_
        refine c_region ?_
        refine l_move rfl rfl rfl ?_
        refine l_gtr rfl rfl rfl rfl ?_
        refine l_nil ?_
        refine e_then ?_
        refine c_keep [1, 4, 6, 8, 9, 45] (.cons rfl (.cons rfl (.cons rfl (.cons rfl (.cons rfl (.cons rfl .nil)))))) ?_
        first | refine c_cond rfl (fun hc2 => ?_) (fun hc2 => ?_) | refine c_condb rfl (fun hc2 => ?_) (fun hc2 => ?_)
        · skip
          refine c_seq ?_
          have hw60 := hw59.drewn
          try clear hw59
          refine c_any (n := 14) [false, false, false, false, false, false, false, false, false, false, false, false, false, false] (fun wS => (As.blk b1_6 61 [.int .i64 (d.M : Int), .int .i64 (-(d.l : Int)), .int .i64 (d.A : Int)]).ok wS) (by kernel_rfl) rfl rfl ?_
          apply a_take (L' := [true, false, false, false, false, false, false, false, false, false, false, false, false, false]) 0 rfl (by kernel_rfl) (by kernel_rfl) (by kernel_rfl) rfl rfl rfl rfl rfl (hw60.ok mem1)
          · intro wS sS
            refine l_move rfl rfl rfl ?_
            refine l_nil ?_
            exact e_got rfl
          apply a_take (L' := [true, true, false, false, false, false, false, false, false, false, false, false, false, false]) 1 rfl (by kernel_rfl) (by kernel_rfl) (by kernel_rfl) rfl rfl rfl rfl rfl (hw60.ok mem1)
          · intro wS sS
            refine l_field fo61_0 rfl rfl rfl ?_
            refine l_nil ?_
            exact e_got rfl
          apply a_take (L' := [true, true, true, false, false, false, false, false, false, false, false, false, false, false]) 2 rfl (by kernel_rfl) (by kernel_rfl) (by kernel_rfl) rfl rfl rfl rfl rfl (hw60.ok mem1)
          · intro wS sS
            refine l_load_blk (blk_st sS) mem0 rfl rfl Try.underlying3 rfl rfl rfl ?_
            refine l_nil ?_
            exact e_got rfl
          apply a_take (L' := [true, true, true, true, false, false, false, false, false, false, false, false, false, false]) 3 rfl (by kernel_rfl) (by kernel_rfl) (by kernel_rfl) rfl rfl rfl rfl rfl (hw60.ok mem1)
          · intro wS sS
            refine l_sub rfl rfl rfl rfl (w_i64 (by omega)) ?_
            refine l_nil ?_
            exact e_got rfl
          apply a_take (L' := [true, true, true, true, true, false, false, false, false, false, false, false, false, false]) 4 rfl (by kernel_rfl) (by kernel_rfl) (by kernel_rfl) rfl rfl rfl rfl rfl (hw60.ok mem1)
          · intro wS sS
            refine l_shl rfl rfl rfl rfl (by omega) (sh_half d) ?_
            refine l_nil ?_
            exact e_got rfl
          apply a_take (L' := [true, true, true, true, true, true, false, false, false, false, false, false, false, false]) 5 rfl (by kernel_rfl) (by kernel_rfl) (by kernel_rfl) rfl rfl rfl rfl rfl (hw60.ok mem1)
          · intro wS sS
            refine l_sub rfl rfl rfl rfl (w_u64 (by omega)) ?_
            refine l_nil ?_
            exact e_got rfl
          apply a_take (L' := [true, true, true, true, true, true, true, false, false, false, false, false, false, false]) 6 rfl (by kernel_rfl) (by kernel_rfl) (by kernel_rfl) rfl rfl rfl rfl rfl (hw60.ok mem1)
          · intro wS sS
            refine l_bits rfl rfl rfl rfl rfl (and_H d (by omega)) ?_
            refine l_nil ?_
            exact e_got rfl
          apply a_take (L' := [true, true, true, true, true, true, true, true, false, false, false, false, false, false]) 7 rfl (by kernel_rfl) (by kernel_rfl) (by kernel_rfl) rfl rfl rfl rfl rfl (hw60.ok mem1)
          · intro wS sS
            refine l_field fo61_0 rfl rfl rfl ?_
            refine l_nil ?_
            exact e_got rfl
          apply a_take (L' := [true, true, true, true, true, true, true, true, true, false, false, false, false, false]) 8 rfl (by kernel_rfl) (by kernel_rfl) (by kernel_rfl) rfl rfl rfl rfl rfl (hw60.ok mem1)
          · intro wS sS
            refine l_load_blk (blk_st sS) mem0 rfl rfl Try.underlying3 rfl rfl rfl ?_
            refine l_nil ?_
            exact e_got rfl
          apply a_take (L' := [true, true, true, true, true, true, true, true, true, true, false, false, false, false]) 9 rfl (by kernel_rfl) (by kernel_rfl) (by kernel_rfl) rfl rfl rfl rfl rfl (hw60.ok mem1)
          · intro wS sS
            refine l_sub rfl rfl rfl rfl (w_i64 (by omega)) ?_
            refine l_nil ?_
            exact e_got rfl
          apply a_take (L' := [true, true, true, true, true, true, true, true, true, true, true, false, false, false]) 10 rfl (by kernel_rfl) (by kernel_rfl) (by kernel_rfl) rfl rfl rfl rfl rfl (hw60.ok mem1)
          · intro wS sS
            refine l_shl rfl rfl rfl rfl (by omega) (sh_half d) ?_
            refine l_nil ?_
            exact e_got rfl
          apply a_take (L' := [true, true, true, true, true, true, true, true, true, true, true, true, false, false]) 11 rfl (by kernel_rfl) (by kernel_rfl) (by kernel_rfl) rfl rfl rfl rfl rfl (hw60.ok mem1)
          · intro wS sS
            refine l_bits rfl rfl rfl rfl rfl (or_H d ⟨hqh.2.2.2.1, hqh.2.2.2.2⟩) ?_
            refine l_nil ?_
            exact e_got rfl
          apply a_take (L' := [true, true, true, true, true, true, true, true, true, true, true, true, true, false]) 12 rfl (by kernel_rfl) (by kernel_rfl) (by kernel_rfl) rfl rfl rfl rfl rfl (hw60.ok mem1)
          · intro wS sS
            refine l_field fo27_1 rfl rfl rfl ?_
            refine l_nil ?_
            exact e_got rfl
          refine a_one (L' := [true, true, true, true, true, true, true, true, true, true, true, true, true, true]) 13 (by kernel_rfl) rfl rfl ?_
          refine l_store_blk hw60 .head (by repeat (first | exact .zero | apply SetAt.succ)) rfl tz22 rfl rfl (by first | rfl | assumption) (fun w61 hw61 => ?_)
          try clear hw60
          refine l_nil ?_
          refine e_any (hw61.ok mem1) ?_
          refine a_done (by kernel_rfl) ?_
          refine e_then ?_
          refine c_keep [4, 8, 9] (.cons rfl (.cons rfl (.cons rfl .nil))) ?_
          refine c_region ?_
          refine l_field fo27_2 rfl rfl rfl ?_
          refine l_load_blk hw61 mem0 rfl rfl Try.underlying3 rfl rfl rfl ?_
          refine l_move rfl rfl rfl ?_
          refine l_conv rfl rfl Try.underlying22 Try.underlying3 rfl (w_i64 (by omega)) ?_
          refine l_sub rfl rfl rfl rfl (w_i64 (by omega)) ?_
          refine l_add rfl rfl rfl rfl (w_i64 (by omega)) ?_
          refine l_field fo27_2 rfl rfl rfl ?_
          refine l_store_blk hw61 .head (by repeat (first | exact .zero | apply SetAt.succ)) rfl tz3 rfl rfl (by first | rfl | assumption) (fun w62 hw62 => ?_)
          try clear hw61
          refine l_nil ?_
          refine e_then ?_
          refine c_keep [4, 8] (.cons rfl (.cons rfl .nil)) ?_
          refine c_seq ?_
          refine c_region ?_
          refine l_load_agg hw62 mem0 rfl rfl Try.underlying27 rfl tz27 rfl (.take (.take (.take .nil))) ?_
          refine l_store_blks hw62 (.tail (.tail .head)) (.zero (.zero (.zero .nil))) rfl tz27 rfl rfl (by first | (simp [Value.oneCell']; done) | (intro u hu; simp only [List.mem_cons, List.not_mem_nil, or_false] at hu; rcases hu with rfl | rfl | rfl <;> first | rfl | assumption)) (fun w63 hw63 => ?_)
          try clear hw62
          refine l_assign rfl rfl rfl ?_
          refine l_nil ?_
          refine e_then ?_
          refine c_keep [4, 5] (.cons rfl (.cons rfl .nil)) ?_
          refine c_ret ?_
          refine e_doneN Try.results18 (.cell rfl (load_agg_run hw63 mem2 Try.underlying27 rfl tz27 (.take (.take (.take .nil)))) (.tmp rfl .nil)) rfl ?_
          refine ⟨_, rfl, ?_⟩
          have hw64 := St.del (.tail (.tail .head)) hw63
          try clear hw63
          have hw65 := St.del (.tail .head) hw64
          try clear hw64
          have hw66 := St.del .head hw65
          try clear hw65
          refine ⟨?_, hw66.grows⟩
          unfold splF
          rw [ofk_ok hd hk0, if_neg hc1, neg_S]
          unfold splM splE
          rw [if_neg (by omega), if_neg (by omega)]
        · skip
          refine c_skip ?_
          refine e_then ?_
          refine c_keep [4, 8] (.cons rfl (.cons rfl .nil)) ?_
          refine c_seq ?_
          refine c_region ?_
          refine l_load_agg hw59 mem0 rfl rfl Try.underlying27 rfl tz27 rfl (.take (.take (.take .nil))) ?_
          refine l_store_blks hw59 (.tail (.tail .head)) (.zero (.zero (.zero .nil))) rfl tz27 rfl rfl (by first | (simp [Value.oneCell']; done) | (intro u hu; simp only [List.mem_cons, List.not_mem_nil, or_false] at hu; rcases hu with rfl | rfl | rfl <;> first | rfl | assumption)) (fun w67 hw67 => ?_)
          try clear hw59
          refine l_assign rfl rfl rfl ?_
          refine l_nil ?_
          refine e_then ?_
          refine c_keep [4, 5] (.cons rfl (.cons rfl .nil)) ?_
          refine c_ret ?_
          refine e_doneN Try.results18 (.cell rfl (load_agg_run hw67 mem2 Try.underlying27 rfl tz27 (.take (.take (.take .nil)))) (.tmp rfl .nil)) rfl ?_
          refine ⟨_, rfl, ?_⟩
          have hw68 := St.del (.tail (.tail .head)) hw67
          try clear hw67
          have hw69 := St.del (.tail .head) hw68
          try clear hw68
          have hw70 := St.del .head hw69
          try clear hw69
          refine ⟨?_, hw70.grows⟩
          unfold splF
          rw [ofk_ok hd hk0, if_neg hc1, neg_S]
          unfold splM splE
          rw [if_pos (by omega), if_pos (by omega)]
theorem nextB (k b : Int) (hb : 0 ≤ b ∧ b ≤ 18446744073709551615) (w : World) :
    CallsV P 22 [.int .i64 k, .int .u64 b] w fun r w' => r = .tuple #[.int .u64 (nxF k b).1, .int .i64 (nxF k b).2] ∧ Grow w w' [] := by
  refine enterW Try.func22 rfl Try.ntmps22 rfl ?_
  have hw0 := St.start w
  refine c_seq ?_
  refine c_region ?_
  refine l_assign rfl rfl rfl ?_
  refine l_assign rfl rfl rfl ?_
  refine l_nil ?_
  refine e_then ?_
  refine c_keep [0, 1] (.cons rfl (.cons rfl .nil)) ?_
  refine c_seq ?_
  refine c_region ?_
  refine l_move rfl rfl rfl ?_
  refine l_move rfl rfl rfl ?_
  refine l_call rfl rfl Try.func44 rfl rfl (.cons rfl (.cons rfl .nil)) (ownB k b hb w) ?_
  rintro _ w1 ⟨m, l, a, e, rfl, hSh, he, hG⟩
  have hw1 := hG _ _ _ _ hw0
  try clear hG hw0
  simp only [List.cons_append, List.nil_append] at hw1
  refine l_move rfl rfl rfl ?_
  refine l_extract rfl rfl rfl rfl ?_
  refine l_extract rfl rfl rfl rfl ?_
  refine l_alloc hw1 ta61 rfl rfl (fun b1_6 w2 hw2 => ?_)
  try clear hw1
  refine l_store_blks hw2 .head (.zero (.zero (.zero .nil))) rfl tz61 rfl rfl (by first | (simp [Value.oneCell']; done) | (intro u hu; simp only [List.mem_cons, List.not_mem_nil, or_false] at hu; rcases hu with rfl | rfl | rfl <;> first | rfl | assumption)) (fun w3 hw3 => ?_)
  try clear hw2
  refine l_assign rfl rfl rfl ?_
  refine l_nil ?_
  refine e_then ?_
  refine c_keep [1, 6, 7] (.cons rfl (.cons rfl (.cons rfl .nil))) ?_
  refine c_seq ?_
  refine c_seq ?_
  refine c_region ?_
  refine l_move rfl rfl rfl ?_
  refine l_neq rfl rfl rfl rfl ?_
  refine l_nil ?_
  refine e_then ?_
  refine c_keep [1, 6, 7, 16] (.cons rfl (.cons rfl (.cons rfl (.cons rfl .nil)))) ?_
  first | refine c_cond rfl (fun hc0 => ?_) (fun hc0 => ?_) | refine c_condb rfl (fun hc0 => ?_) (fun hc0 => ?_)
  · skip
    refine c_seq ?_
    refine c_region ?_
    refine l_move rfl rfl rfl ?_
    refine l_assign rfl rfl rfl ?_
    refine l_assign rfl rfl rfl ?_
    refine l_nil ?_
    refine e_then ?_
    refine c_keep [4, 5] (.cons rfl (.cons rfl .nil)) ?_
    refine c_ret ?_
    refine e_then_ret ?_
    refine e_done2 Try.results22 rfl rfl ?_
    refine ⟨_, rfl, ?_⟩
    have hw4 := St.del .head hw3
    try clear hw3
    refine ⟨?_, hw4.grows⟩
    subst he
    unfold nxF
    rw [ofk_bad hc0]
    all_goals rfl
  · skip
    obtain ⟨d, hd, hlt⟩ := chk_ok (k := k) (b := b) (by omega) hb.2
    have hk0 := chk_some hd hlt
    obtain ⟨rfl, rfl, rfl⟩ := hSh.at hd
    have hbd := d.bd
    have hms := mod_S d ⟨hb.1, hlt⟩
    refine c_skip ?_
    refine e_then ?_
    refine c_keep [1, 6] (.cons rfl (.cons rfl .nil)) ?_
    refine c_seq ?_
    refine c_region ?_
    refine l_move rfl rfl rfl ?_
    refine l_load_agg hw3 mem0 rfl rfl Try.underlying61 rfl tz61 rfl (.take (.take (.take .nil))) ?_
    refine l_call rfl rfl Try.func45 rfl rfl (.cons rfl .nil) (signB d w3) ?_
    rintro _ w5 ⟨rfl, hG⟩
    have hw5 := hG _ _ _ _ hw3
    try clear hG hw3
    simp only [List.cons_append, List.nil_append] at hw5
    refine l_bits rfl rfl rfl rfl rfl (andn_S d ⟨hb.1, hlt⟩) ?_
    refine l_assign rfl rfl rfl ?_
    refine l_nil ?_
    refine e_then ?_
    refine c_keep [1, 6, 8] (.cons rfl (.cons rfl (.cons rfl .nil))) ?_
    refine c_seq ?_
    refine c_block ?_
    refine c_seq ?_
    refine c_region ?_
    refine l_move rfl rfl rfl ?_
    refine l_load_agg hw5 mem0 rfl rfl Try.underlying61 rfl tz61 rfl (.take (.take (.take .nil))) ?_
    refine l_call rfl rfl Try.func46 rfl rfl (.cons rfl .nil) (infB d w5) ?_
    rintro _ w6 ⟨rfl, hG⟩
    have hw6 := hG _ _ _ _ hw5
    try clear hG hw5
    simp only [List.cons_append, List.nil_append] at hw6
    refine l_geq rfl rfl rfl rfl ?_
    refine l_assign rfl rfl rfl ?_
    refine l_nil ?_
    refine e_then ?_
    refine c_keep [1, 6, 8, 22] (.cons rfl (.cons rfl (.cons rfl (.cons rfl .nil)))) ?_
    first | refine c_cond rfl (fun hc1 => ?_) (fun hc1 => ?_) | refine c_condb rfl (fun hc1 => ?_) (fun hc1 => ?_)
    · skip
      refine c_seq ?_
      refine c_region ?_
      refine l_assign rfl rfl rfl ?_
      refine l_assign rfl rfl rfl ?_
      refine l_nil ?_
      refine e_then ?_
      refine c_keep [4, 5] (.cons rfl (.cons rfl .nil)) ?_
      refine c_ret ?_
      refine e_blk_ret ?_
      refine e_then_ret ?_
      refine e_done2 Try.results22 rfl rfl ?_
      refine ⟨_, rfl, ?_⟩
      have hw7 := St.del .head hw6
      try clear hw6
      refine ⟨?_, hw7.grows⟩
      unfold nxF
      rw [ofk_ok hd hk0]
      unfold nx
      rw [if_pos hc1]
    · skip
      refine c_seq ?_
      refine c_region ?_
      refine l_move rfl rfl rfl ?_
      refine l_eql rfl rfl rfl rfl ?_
      refine l_assign rfl rfl rfl ?_
      refine l_nil ?_
      refine e_then ?_
      refine c_keep [1, 6, 8, 27] (.cons rfl (.cons rfl (.cons rfl (.cons rfl .nil)))) ?_
      first | refine c_cond rfl (fun hc2 => ?_) (fun hc2 => ?_) | refine c_condb rfl (fun hc2 => ?_) (fun hc2 => ?_)
      · skip
        refine c_seq ?_
        refine c_region ?_
        refine l_assign rfl rfl rfl ?_
        refine l_assign rfl rfl rfl ?_
        refine l_nil ?_
        refine e_then ?_
        refine c_keep [4, 5] (.cons rfl (.cons rfl .nil)) ?_
        refine c_ret ?_
        refine e_blk_ret ?_
        refine e_then_ret ?_
        refine e_done2 Try.results22 rfl rfl ?_
        refine ⟨_, rfl, ?_⟩
        have hw8 := St.del .head hw6
        try clear hw6
        refine ⟨?_, hw8.grows⟩
        unfold nxF
        rw [ofk_ok hd hk0]
        unfold nx
        rw [if_neg hc1, if_pos hc2]
      · skip
        refine c_seq ?_
        refine c_region ?_
        refine l_move rfl rfl rfl ?_
        refine l_move rfl rfl rfl ?_
        refine l_neq rfl rfl rfl rfl ?_
        refine l_assign rfl rfl rfl ?_
        refine l_nil ?_
        refine e_then ?_
        refine c_keep [1, 6, 30] (.cons rfl (.cons rfl (.cons rfl .nil))) ?_
        first | refine c_cond rfl (fun hc3 => ?_) (fun hc3 => ?_) | refine c_condb rfl (fun hc3 => ?_) (fun hc3 => ?_)
        · skip
          refine c_seq ?_
          refine c_region ?_
          refine l_move rfl rfl rfl ?_
          refine l_sub rfl rfl rfl rfl (w_u64 (by omega)) ?_
          refine l_assign rfl rfl rfl ?_
          refine l_assign rfl rfl rfl ?_
          refine l_nil ?_
          refine e_then ?_
          refine c_keep [4, 5] (.cons rfl (.cons rfl .nil)) ?_
          refine c_ret ?_
          refine e_blk_ret ?_
          refine e_then_ret ?_
          refine e_done2 Try.results22 rfl rfl ?_
          refine ⟨_, rfl, ?_⟩
          have hw9 := St.del .head hw6
          try clear hw6
          refine ⟨?_, hw9.grows⟩
          unfold nxF
          rw [ofk_ok hd hk0]
          unfold nx
          rw [if_neg hc1, if_neg hc2, if_pos (by omega)]
        · skip
          refine c_seq ?_
          refine c_region ?_
          refine l_move rfl rfl rfl ?_
          refine l_add rfl rfl rfl rfl (w_u64 (by omega)) ?_
          refine l_load_agg hw6 mem0 rfl rfl Try.underlying61 rfl tz61 rfl (.take (.take (.take .nil))) ?_
          refine l_call rfl rfl Try.func46 rfl rfl (.cons rfl .nil) (infB d w6) ?_
          rintro _ w10 ⟨rfl, hG⟩
          have hw10 := hG _ _ _ _ hw6
          try clear hG hw6
          simp only [List.cons_append, List.nil_append] at hw10
          refine l_eql rfl rfl rfl rfl ?_
          refine l_assign rfl rfl rfl ?_
          refine l_nil ?_
          refine e_then ?_
          refine c_keep [1, 36] (.cons rfl (.cons rfl .nil)) ?_
          first | refine c_cond rfl (fun hc4 => ?_) (fun hc4 => ?_) | refine c_condb rfl (fun hc4 => ?_) (fun hc4 => ?_)
          · skip
            refine c_seq ?_
            refine c_region ?_
            refine l_assign rfl rfl rfl ?_
            refine l_assign rfl rfl rfl ?_
            refine l_nil ?_
            refine e_then ?_
            refine c_keep [4, 5] (.cons rfl (.cons rfl .nil)) ?_
            refine c_ret ?_
            refine e_blk_ret ?_
            refine e_then_ret ?_
            refine e_done2 Try.results22 rfl rfl ?_
            refine ⟨_, rfl, ?_⟩
            have hw11 := St.del .head hw10
            try clear hw10
            refine ⟨?_, hw11.grows⟩
            unfold nxF
            rw [ofk_ok hd hk0]
            unfold nx
            rw [if_neg hc1, if_neg hc2, if_neg (by omega), if_pos hc4]
          · skip
            refine c_skip ?_
            refine e_blk ?_
            refine e_then ?_
            refine c_keep [1] (.cons rfl .nil) ?_
            refine c_seq ?_
            refine c_region ?_
            refine l_move rfl rfl rfl ?_
            refine l_add rfl rfl rfl rfl (w_u64 (by omega)) ?_
            refine l_assign rfl rfl rfl ?_
            refine l_assign rfl rfl rfl ?_
            refine l_nil ?_
            refine e_then ?_
            refine c_keep [4, 5] (.cons rfl (.cons rfl .nil)) ?_
            refine c_ret ?_
            refine e_done2 Try.results22 rfl rfl ?_
            refine ⟨_, rfl, ?_⟩
            have hw12 := St.del .head hw10
            try clear hw10
            refine ⟨?_, hw12.grows⟩
            unfold nxF
            rw [ofk_ok hd hk0]
            unfold nx
            rw [if_neg hc1, if_neg hc2, if_neg (by omega), if_neg hc4]
end Go.Proofs.Ytmcbdgpcbcldjaa.W
