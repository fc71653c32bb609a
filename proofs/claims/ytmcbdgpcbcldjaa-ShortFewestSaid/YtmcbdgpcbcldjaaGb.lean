/- walks of bits.shapes, sign, inf, own, signed -/
import Derived.Test.YtmcbdgpcbcldjaaGa
set_option linter.unusedVariables false
set_option linter.unusedSimpArgs false
set_option maxRecDepth 10000
namespace Go.Proofs.Ytmcbdgpcbcldjaa.W
open Go.Vc Go.RowKit

def kd (k : Int) : Option Kd := if k = 9 then some .f32 else if k = 10 then some .f64 else none
def chk (k b : Int) : Int := if k = 9 then (if b < 4294967296 then 0 else 31) else if k = 10 then 0 else 30
theorem kd_some {k : Int} {d : Kd} (h : kd k = some d) : (k = 9 ∧ d = .f32) ∨ (k = 10 ∧ d = .f64) := by
  unfold kd at h
  split at h
  · left; cases h; exact ⟨by assumption, rfl⟩
  · split at h
    · right; cases h; exact ⟨by assumption, rfl⟩
    · cases h
theorem chk_ok {k b : Int} (h : chk k b = 0) (hb : b ≤ 18446744073709551615) : ∃ d, kd k = some d ∧ b < 2 * d.S := by
  unfold chk at h
  split at h
  · split at h
    · exact ⟨.f32, by unfold kd; rw [if_pos (by assumption)], by show b < 2 * 2147483648; omega⟩
    · omega
  · split at h
    · exact ⟨.f64, by unfold kd; rw [if_neg (by assumption), if_pos (by assumption)], by show b < 2 * 9223372036854775808; omega⟩
    · omega
theorem chk_some {k b : Int} {d : Kd} (h : kd k = some d) (hb : b < 2 * d.S) : chk k b = 0 := by
  rcases kd_some h with ⟨rfl, rfl⟩ | ⟨rfl, rfl⟩
  · have : b < 2 * 2147483648 := hb
    unfold chk; rw [if_pos rfl, if_pos (by omega)]
  · rfl
theorem chk_none {k b : Int} (h : kd k = none) : chk k b = 30 := by
  unfold kd at h
  split at h
  · cases h
  · split at h
    · cases h
    · unfold chk; rw [if_neg (by assumption), if_neg (by assumption)]
/-- what shapes tells: the kind's shape, if it is one -/
def ShR (k m l a : Int) (b : Bool) : Prop := match kd k with
  | some d => m = d.M ∧ l = -(d.l : Int) ∧ a = d.A ∧ b = true
  | none => m = 0 ∧ l = 0 ∧ a = 0 ∧ b = false
theorem ShR.yes {k m l a : Int} (h : ShR k m l a true) : ∃ d, kd k = some d ∧ m = d.M ∧ l = -(d.l : Int) ∧ a = d.A := by
  unfold ShR at h
  split at h
  · exact ⟨_, by assumption, h.1, h.2.1, h.2.2.1⟩
  · exact absurd h.2.2.2 (by decide)
theorem ShR.no {k m l a : Int} (h : ShR k m l a false) : kd k = none := by
  unfold ShR at h
  split at h
  · exact absurd h.2.2.2 (by decide)
  · assumption
theorem ShR.is {k m l a : Int} {b : Bool} (h : ShR k m l a b) : b = (kd k).isSome := by
  unfold ShR at h
  split at h <;> rename_i e
  · rw [e]; exact h.2.2.2
  · rw [e]; exact h.2.2.2
theorem shr_A (d : Kd) {b : Int} (_h : 0 ≤ b) : b.fdiv (2 ^ (min (d.A : Int).toNat 64)) = b / 2 ^ d.A := by
  cases d <;> exact Int.fdiv_eq_ediv_of_nonneg _ (by decide)
def tM (i : Nat) : Int := if i = 0 then 24 else 53
def tL (i : Nat) : Int := if i = 0 then -149 else -1074
def tA (i : Nat) : Int := if i = 0 then 32 else 64
theorem Kd.bd (d : Kd) : 0 < d.H ∧ d.H < d.I ∧ d.I < d.S ∧ d.S ≤ 9223372036854775808 ∧ 24 ≤ d.M ∧ d.M ≤ 53 ∧ 32 ≤ d.A ∧ d.A ≤ 64 ∧ 149 ≤ d.l ∧ d.l ≤ 1074 := by cases d <;> decide
theorem sh_sign (d : Kd) : IntKind.u64.wrap (1 * 2 ^ (min ((d.A : Int) - 1).toNat 64)) = d.S := by cases d <;> rfl
theorem sh_half (d : Kd) : IntKind.u64.wrap (1 * 2 ^ (min ((d.M : Int) - 1).toNat 64)) = d.H := by cases d <;> rfl
theorem sh_inf (d : Kd) : IntKind.u64.wrap (d.S - d.H) = d.I := by cases d <;> rfl
theorem Kd.hS (d : Kd) : d.S = 2 ^ (d.A - 1) := by cases d <;> rfl
theorem Kd.hSn (d : Kd) : d.A - 1 < 64 ∧ 2 ^ (d.A - 1 + 1) = 2 * d.S := by cases d <;> exact ⟨by decide, rfl⟩
theorem andn_S (d : Kd) {b : Int} (h : 0 ≤ b ∧ b < 2 * d.S) : bitw .andNot .u64 b d.S = b % d.S := by
  rw [d.hS]; exact top_clear d.hSn.1 (by rw [d.hSn.2]; exact h)
theorem and_S (d : Kd) {b : Int} (h : 0 ≤ b ∧ b < 2 * d.S) : bitw .and .u64 b d.S = if d.S ≤ b then d.S else 0 := by
  rw [d.hS]; exact top_and d.hSn.1 (by rw [d.hSn.2]; exact h)
theorem or_S (d : Kd) {b : Int} (h : 0 ≤ b ∧ b < d.S) : bitw .or .u64 b d.S = b + d.S := by
  rw [d.hS] at h ⊢; exact top_or d.hSn.1 h
/-- a float with its sign turned -/
def turnS (d : Kd) (b : Int) : Int := if d.S ≤ b then b - d.S else b + d.S
theorem xor_S (d : Kd) {b : Int} (h : 0 ≤ b ∧ b < 2 * d.S) : bitw .xor .u64 b d.S = turnS d b := by
  unfold turnS; rw [d.hS]; exact top_xor d.hSn.1 (by rw [d.hSn.2]; exact h)
theorem mod_S (d : Kd) {b : Int} (h : 0 ≤ b ∧ b < 2 * d.S) : (d.S ≤ b ∧ b % d.S = b - d.S) ∨ (b < d.S ∧ b % d.S = b) := by
  rcases Int.lt_or_le b d.S with h1 | h1
  · exact .inr ⟨h1, Int.emod_eq_of_lt h.1 h1⟩
  · refine .inl ⟨h1, ?_⟩
    rw [← Int.sub_emod_right, Int.emod_eq_of_lt (by omega) (by omega)]

theorem shapesB (k : Int) (w : World) :
    CallsV P 29 [.int .i64 k] w fun r w' => ∃ m l a b, r = .tuple #[.agg #[.int .i64 m, .int .i64 l, .int .i64 a], .bool b] ∧ ShR k m l a b ∧ Grow w w' [] := by
  refine enterW Try.func29 rfl Try.ntmps29 rfl ?_
  have hw0 := St.start w
  refine c_seq ?_
  refine c_region ?_
  refine l_alloc hw0 ta61 rfl rfl (fun b0_0 w1 hw1 => ?_)
  try clear hw0
  refine l_assign rfl rfl rfl ?_
  refine l_nil ?_
  refine e_then ?_
  refine c_keep [0, 2] (.cons rfl (.cons rfl .nil)) ?_
  refine c_seq ?_
  refine c_region ?_
  refine l_buildS rfl rfl pl61 ta61 (.one rfl rfl (by first | rfl | assumption) .zero (.one rfl rfl (by first | rfl | assumption) (.succ .zero) (.one rfl rfl (by first | rfl | assumption) (.succ (.succ .zero)) .nil))) ?_
  refine l_buildS rfl rfl pl92 ta92 (.one rfl rfl (by first | rfl | assumption) .zero (.row rfl rfl rfl (.succ (.zero (.zero (.zero .nil)))) .nil)) ?_
  refine l_buildS rfl rfl pl61 ta61 (.one rfl rfl (by first | rfl | assumption) .zero (.one rfl rfl (by first | rfl | assumption) (.succ .zero) (.one rfl rfl (by first | rfl | assumption) (.succ (.succ .zero)) .nil))) ?_
  refine l_buildS rfl rfl pl92 ta92 (.one rfl rfl (by first | rfl | assumption) .zero (.row rfl rfl rfl (.succ (.zero (.zero (.zero .nil)))) .nil)) ?_
  refine l_buildA (pl := [(0, 4), (4, 4)]) rfl rfl Try.underlying93 tz92 ta93 (by intro i q h; rcases i with _ | _ | i <;> simp at h <;> (try subst h) <;> rfl) (.row rfl rfl rfl (.zero (.zero (.zero (.zero .nil)))) (.row rfl rfl rfl (.succ (.succ (.succ (.succ (.zero (.zero (.zero (.zero .nil)))))))) .nil)) ?_
  refine l_alloc hw1 ta93 rfl rfl (fun b1_5 w2 hw2 => ?_)
  try clear hw1
  refine l_store_blks hw2 .head (.zero (.zero (.zero (.zero (.zero (.zero (.zero (.zero .nil)))))))) rfl tz93 rfl rfl (by first | (simp [Value.oneCell']; done) | (intro u hu; simp only [List.mem_cons, List.not_mem_nil, or_false] at hu; rcases hu with rfl | rfl | rfl | rfl | rfl | rfl | rfl | rfl <;> first | rfl | assumption)) (fun w3 hw3 => ?_)
  try clear hw2
  refine l_nil ?_
  refine e_then ?_
  refine c_keep [0, 2, 4] (.cons rfl (.cons rfl (.cons rfl .nil))) ?_
  refine c_seq ?_
  refine c_seq ?_
  refine c_region ?_
  refine l_load_agg hw3 mem0 rfl rfl Try.underlying93 rfl tz93 rfl (.take (.take (.take (.take (.take (.take (.take (.take .nil)))))))) ?_
  refine l_move rfl rfl rfl ?_
  refine l_nil ?_
  refine e_then ?_
  refine c_keep [0, 2, 12, 13] (.cons rfl (.cons rfl (.cons rfl (.cons rfl .nil)))) ?_
  refine c_block ?_
  refine c_loopk (ι := Nat) (fun (i : Nat) => 2 - i) (fun (i : Nat) (w' : World) => St w w.heap.size None' ([As.blk b1_5 93 [.int .i64 9, .int .i64 24, .int .i64 (-149), .int .i64 32, .int .i64 10, .int .i64 53, .int .i64 (-1074), .int .i64 64], As.blk b0_0 61 [.int .i64 0, .int .i64 0, .int .i64 0]]) w' ∧ i ≤ 2 ∧ (0 < i → ¬ k = 9) ∧ (1 < i → ¬ k = 10)) (fun (i : Nat) => [(13, .int .i64 (i : Int))]) [0, 2, 12] (0) ?_ (.cons rfl (.cons rfl (.cons rfl .nil))) ?_ ?_
  · exact ⟨hw3, by omega, by omega, by omega⟩
  · exact (.cons rfl (by first | rfl | (refine congrArg (Value.int _) ?_; omega)) .nil)
  rintro i w4 ⟨hw4, hi, h9, h10⟩
  show RunC P _ _ _ (_ :: _) _
  refine c_seq ?_
  refine c_region ?_
  refine l_lss rfl rfl rfl rfl ?_
  refine l_nil ?_
  refine e_then ?_
  refine c_seq ?_
  first | refine c_cond rfl (fun hc0 => ?_) (fun hc0 => ?_) | refine c_condb rfl (fun hc0 => ?_) (fun hc0 => ?_)
  · skip
    refine c_skip ?_
    refine e_then ?_
    refine c_keep [0, 2, 12, 13] (.cons rfl (.cons rfl (.cons rfl (.cons rfl .nil)))) ?_
    refine c_seq ?_
    refine c_block ?_
    refine c_seq ?_
    refine c_region ?_
    refine l_elemA (j := i) (vs := [.int .i64 (9 + i : Int), .int .i64 (tM i), .int .i64 (tL i), .int .i64 (tA i)]) rfl rfl Try.underlying93 Try.underlying92 tz92 rfl rfl (by omega) (by omega) (by rcases (show i = 0 ∨ i = 1 by omega) with rfl | rfl <;> rfl) ?_
    refine l_alloc hw4 ta92 rfl rfl (fun b4_1 w5 hw5 => ?_)
    try clear hw4
    refine l_store_blks hw5 .head (.zero (.zero (.zero (.zero .nil)))) rfl tz92 rfl rfl (by first | (simp [Value.oneCell']; done) | (intro u hu; simp only [List.mem_cons, List.not_mem_nil, or_false] at hu; rcases hu with rfl | rfl | rfl | rfl <;> first | rfl | assumption)) (fun w6 hw6 => ?_)
    try clear hw5
    refine l_nil ?_
    refine e_then ?_
    refine c_keep [0, 2, 6, 12, 13] (.cons rfl (.cons rfl (.cons rfl (.cons rfl (.cons rfl .nil))))) ?_
    refine c_seq ?_
    refine c_region ?_
    refine l_field fo92_0 rfl rfl rfl ?_
    refine l_load_blk hw6 mem0 rfl rfl Try.underlying3 rfl rfl rfl ?_
    refine l_move rfl rfl rfl ?_
    refine l_eql rfl rfl rfl rfl ?_
    refine l_nil ?_
    refine e_then ?_
    refine c_keep [0, 2, 6, 12, 13, 19] (.cons rfl (.cons rfl (.cons rfl (.cons rfl (.cons rfl (.cons rfl .nil)))))) ?_
    first | refine c_cond rfl (fun hc1 => ?_) (fun hc1 => ?_) | refine c_condb rfl (fun hc1 => ?_) (fun hc1 => ?_)
    · skip
      refine c_seq ?_
      refine c_region ?_
      refine l_field fo92_1 rfl rfl rfl ?_
      refine l_load_agg hw6 mem0 rfl rfl Try.underlying61 rfl tz61 rfl (.drop (.take (.take (.take .nil)))) ?_
      refine l_store_blks hw6 (.tail (.tail .head)) (.zero (.zero (.zero .nil))) rfl tz61 rfl rfl (by first | (simp [Value.oneCell']; done) | (intro u hu; simp only [List.mem_cons, List.not_mem_nil, or_false] at hu; rcases hu with rfl | rfl | rfl <;> first | rfl | assumption)) (fun w7 hw7 => ?_)
      try clear hw6
      refine l_assign rfl rfl rfl ?_
      refine l_nil ?_
      refine e_then ?_
      refine c_keep [2, 3] (.cons rfl (.cons rfl .nil)) ?_
      refine c_ret ?_
      refine e_blk_ret ?_
      refine e_then_ret ?_
      refine e_then_ret ?_
      refine e_blk_ret ?_
      refine e_then_ret ?_
      refine e_doneN Try.results29 (.cell rfl (load_agg_run hw7 mem2 Try.underlying61 rfl tz61 (.take (.take (.take .nil)))) (.tmp rfl .nil)) rfl ?_
      refine ⟨_, rfl, ?_⟩
      have hw8 := St.del (.tail (.tail .head)) hw7
      try clear hw7
      have hw9 := St.del (.tail .head) hw8
      try clear hw8
      have hw10 := St.del .head hw9
      try clear hw9
      refine ⟨_, _, _, _, rfl, ?_, hw10.grows⟩
      unfold ShR kd
      rcases (show i = 0 ∨ i = 1 by omega) with rfl | rfl
      · obtain rfl : k = 9 := by omega
        exact ⟨rfl, rfl, rfl, rfl⟩
      · obtain rfl : k = 10 := by omega
        exact ⟨rfl, rfl, rfl, rfl⟩
    · skip
      refine c_skip ?_
      refine e_blk ?_
      refine e_then ?_
      refine c_keep [0, 2, 12, 13] (.cons rfl (.cons rfl (.cons rfl (.cons rfl .nil)))) ?_
      refine c_region ?_
      refine l_add rfl rfl rfl rfl (w_i64 (by omega)) ?_
      refine l_move rfl rfl rfl ?_
      refine l_nil ?_
      refine e_againk (i := (i)) (i + 1) ?_ ?_ (.cons rfl (.cons rfl (.cons rfl .nil))) ?_
      · first | omega | (simp; omega)
      · exact ⟨St.del .head hw6, by omega, by omega, by omega⟩
      · exact (.cons rfl (by first | rfl | (refine congrArg (Value.int _) ?_; omega)) .nil)
  · skip
    refine c_exit ?_
    refine e_then_exit ?_
    refine e_then_exit ?_
    refine e_blk_exit ?_
    refine e_then ?_
    refine c_keep [2] (.cons rfl .nil) ?_
    refine c_seq ?_
    refine c_region ?_
    refine l_buildS rfl rfl pl61 ta61 .nil ?_
    refine l_store_blks hw4 (.tail .head) (.zero (.zero (.zero .nil))) rfl tz61 rfl rfl (by first | (simp [Value.oneCell']; done) | (intro u hu; simp only [List.mem_cons, List.not_mem_nil, or_false] at hu; rcases hu with rfl | rfl | rfl <;> first | rfl | assumption)) (fun w11 hw11 => ?_)
    try clear hw4
    refine l_assign rfl rfl rfl ?_
    refine l_nil ?_
    refine e_then ?_
    refine c_keep [2, 3] (.cons rfl (.cons rfl .nil)) ?_
    refine c_ret ?_
    refine e_doneN Try.results29 (.cell rfl (load_agg_run hw11 mem1 Try.underlying61 rfl tz61 (.take (.take (.take .nil)))) (.tmp rfl .nil)) rfl ?_
    refine ⟨_, rfl, ?_⟩
    have hw12 := St.del (.tail .head) hw11
    try clear hw11
    have hw13 := St.del .head hw12
    try clear hw12
    refine ⟨_, _, _, _, rfl, ?_, hw13.grows⟩
    unfold ShR kd
    rw [if_neg (h9 (by omega)), if_neg (h10 (by omega))]
    exact ⟨rfl, rfl, rfl, rfl⟩
theorem signB (d : Kd) (w : World) :
    CallsV P 45 [.agg #[.int .i64 (d.M : Int), .int .i64 (-(d.l : Int)), .int .i64 (d.A : Int)]] w fun r w' => r = .int .u64 d.S ∧ Grow w w' [] := by
  refine enterW Try.func45 rfl Try.ntmps45 rfl ?_
  have hw0 := St.start w
  have hbd := d.bd
  refine c_seq ?_
  refine c_region ?_
  refine l_box hw0 rfl rfl rfl (fun b0_0 w1 hw1 => ?_)
  try clear hw0
  refine l_assign rfl rfl rfl ?_
  refine l_nil ?_
  refine e_then ?_
  refine c_keep [1] (.cons rfl .nil) ?_
  refine c_seq ?_
  refine c_region ?_
  refine l_field fo61_2 rfl rfl rfl ?_
  refine l_load_blk hw1 mem0 rfl rfl Try.underlying3 rfl rfl rfl ?_
  refine l_sub rfl rfl rfl rfl (w_i64 (by omega)) ?_
  refine l_shl rfl rfl rfl rfl (by omega) (sh_sign d) ?_
  refine l_assign rfl rfl rfl ?_
  refine l_nil ?_
  refine e_then ?_
  refine c_keep [2] (.cons rfl .nil) ?_
  refine c_ret ?_
  refine e_done1 Try.results45 rfl ?_
  refine ⟨_, rfl, ?_⟩
  have hw2 := St.del .head hw1
  try clear hw1
  exact ⟨rfl, hw2.grows⟩
theorem infB (d : Kd) (w : World) :
    CallsV P 46 [.agg #[.int .i64 (d.M : Int), .int .i64 (-(d.l : Int)), .int .i64 (d.A : Int)]] w fun r w' => r = .int .u64 d.I ∧ Grow w w' [] := by
  refine enterW Try.func46 rfl Try.ntmps46 rfl ?_
  have hw0 := St.start w
  have hbd := d.bd
  refine c_seq ?_
  refine c_region ?_
  refine l_box hw0 rfl rfl rfl (fun b0_0 w1 hw1 => ?_)
  try clear hw0
  refine l_assign rfl rfl rfl ?_
  refine l_nil ?_
  refine e_then ?_
  refine c_keep [1] (.cons rfl .nil) ?_
  refine c_seq ?_
  have hw2 := hw1.drewn
  try clear hw1
  refine c_any (n := 8) [false, false, false, false, false, false, false, false] (fun wS => (As.blk b0_0 61 [.int .i64 (d.M : Int), .int .i64 (-(d.l : Int)), .int .i64 (d.A : Int)]).ok wS) (by kernel_rfl) rfl rfl ?_
  apply a_take (L' := [true, false, false, false, false, false, false, false]) 0 rfl (by kernel_rfl) (by kernel_rfl) (by kernel_rfl) rfl rfl rfl rfl rfl (hw2.ok mem0)
  · intro wS sS
    refine l_load_agg (blk_st sS) mem0 rfl rfl Try.underlying61 rfl tz61 rfl (.take (.take (.take .nil))) ?_
    refine l_nil ?_
    exact e_got rfl
  apply a_take (L' := [true, false, true, false, false, false, false, false]) 2 rfl (by kernel_rfl) (by kernel_rfl) (by kernel_rfl) rfl rfl rfl rfl rfl (hw2.ok mem0)
  · intro wS sS
    refine l_field fo61_0 rfl rfl rfl ?_
    refine l_nil ?_
    exact e_got rfl
  apply a_take (L' := [true, false, true, true, false, false, false, false]) 3 rfl (by kernel_rfl) (by kernel_rfl) (by kernel_rfl) rfl rfl rfl rfl rfl (hw2.ok mem0)
  · intro wS sS
    refine l_load_blk (blk_st sS) mem0 rfl rfl Try.underlying3 rfl rfl rfl ?_
    refine l_nil ?_
    exact e_got rfl
  apply a_take (L' := [true, false, true, true, true, false, false, false]) 4 rfl (by kernel_rfl) (by kernel_rfl) (by kernel_rfl) rfl rfl rfl rfl rfl (hw2.ok mem0)
  · intro wS sS
    refine l_sub rfl rfl rfl rfl (w_i64 (by omega)) ?_
    refine l_nil ?_
    exact e_got rfl
  apply a_take (L' := [true, false, true, true, true, true, false, false]) 5 rfl (by kernel_rfl) (by kernel_rfl) (by kernel_rfl) rfl rfl rfl rfl rfl (hw2.ok mem0)
  · intro wS sS
    refine l_shl rfl rfl rfl rfl (by omega) (sh_half d) ?_
    refine l_nil ?_
    exact e_got rfl
  refine a_one (L' := [true, true, true, true, true, true, false, false]) 1 (by kernel_rfl) rfl rfl ?_
  refine l_call rfl rfl Try.func45 rfl rfl (.cons rfl .nil) (signB d w1.drew) ?_
  rintro _ w3 ⟨rfl, hG⟩
  have hw3 := hG _ _ _ _ hw2
  try clear hG hw2
  simp only [List.cons_append, List.nil_append] at hw3
  refine l_nil ?_
  refine e_any (hw3.ok mem0) ?_
  apply a_take (L' := [true, true, true, true, true, true, true, false]) 6 rfl (by kernel_rfl) (by kernel_rfl) (by kernel_rfl) rfl rfl rfl rfl rfl (hw3.ok mem0)
  · intro wS sS
    refine l_sub rfl rfl rfl rfl (sh_inf d) ?_
    refine l_nil ?_
    exact e_got rfl
  apply a_take (L' := [true, true, true, true, true, true, true, true]) 7 rfl (by kernel_rfl) (by kernel_rfl) (by kernel_rfl) rfl rfl rfl rfl rfl (hw3.ok mem0)
  · intro wS sS
    refine l_assign rfl rfl rfl ?_
    refine l_nil ?_
    exact e_got rfl
  refine a_done (by kernel_rfl) ?_
  refine e_then ?_
  refine c_keep [2] (.cons rfl .nil) ?_
  refine c_ret ?_
  refine e_done1 Try.results46 rfl ?_
  refine ⟨_, rfl, ?_⟩
  have hw4 := St.del .head hw3
  try clear hw3
  exact ⟨rfl, hw4.grows⟩
theorem ownB (k b : Int) (hb : 0 ≤ b ∧ b ≤ 18446744073709551615) (w : World) :
    CallsV P 44 [.int .i64 k, .int .u64 b] w fun r w' => ∃ m l a e, r = .tuple #[.agg #[.int .i64 m, .int .i64 l, .int .i64 a], .int .i64 e] ∧ ShR k m l a (kd k).isSome ∧ e = chk k b ∧ Grow w w' [] := by
  refine enterW Try.func44 rfl Try.ntmps44 rfl ?_
  have hw0 := St.start w
  refine c_seq ?_
  refine c_region ?_
  refine l_alloc hw0 ta61 rfl rfl (fun b0_0 w1 hw1 => ?_)
  try clear hw0
  refine l_assign rfl rfl rfl ?_
  refine l_nil ?_
  refine e_then ?_
  refine c_keep [0, 1, 4] (.cons rfl (.cons rfl (.cons rfl .nil))) ?_
  refine c_seq ?_
  refine c_region ?_
  refine l_move rfl rfl rfl ?_
  refine l_call rfl rfl Try.func29 rfl rfl (.cons rfl .nil) (shapesB k w1) ?_
  rintro _ w2 ⟨m, l, a, sok, rfl, hSh, hG⟩
  have hw2 := hG _ _ _ _ hw1
  try clear hG hw1
  simp only [List.cons_append, List.nil_append] at hw2
  obtain rfl := hSh.is
  refine l_move rfl rfl rfl ?_
  refine l_extract rfl rfl rfl rfl ?_
  refine l_extract rfl rfl rfl rfl ?_
  refine l_alloc hw2 ta61 rfl rfl (fun b1_5 w3 hw3 => ?_)
  try clear hw2
  refine l_store_blks hw3 .head (.zero (.zero (.zero .nil))) rfl tz61 rfl rfl (by first | (simp [Value.oneCell']; done) | (intro u hu; simp only [List.mem_cons, List.not_mem_nil, or_false] at hu; rcases hu with rfl | rfl | rfl <;> first | rfl | assumption)) (fun w4 hw4 => ?_)
  try clear hw3
  refine l_assign rfl rfl rfl ?_
  refine l_nil ?_
  refine e_then ?_
  refine c_keep [1, 4, 6, 7] (.cons rfl (.cons rfl (.cons rfl (.cons rfl .nil)))) ?_
  refine c_seq ?_
  refine c_block ?_
  refine c_seq ?_
  refine c_region ?_
  refine l_move rfl rfl rfl ?_
  first | refine l_notd rfl rfl rfl ?_ | refine l_not rfl rfl rfl ?_
  refine l_assign rfl rfl rfl ?_
  refine l_nil ?_
  refine e_then ?_
  refine c_keep [1, 4, 6, 13] (.cons rfl (.cons rfl (.cons rfl (.cons rfl .nil)))) ?_
  first | refine c_cond rfl (fun hc0 => ?_) (fun hc0 => ?_) | refine c_condb rfl (fun hc0 => ?_) (fun hc0 => ?_)
  · skip
    have hno : kd k = none := by simpa using hc0
    refine c_seq ?_
    refine c_region ?_
    refine l_load_agg hw4 mem0 rfl rfl Try.underlying61 rfl tz61 rfl (.take (.take (.take .nil))) ?_
    refine l_store_blks hw4 (.tail .head) (.zero (.zero (.zero .nil))) rfl tz61 rfl rfl (by first | (simp [Value.oneCell']; done) | (intro u hu; simp only [List.mem_cons, List.not_mem_nil, or_false] at hu; rcases hu with rfl | rfl | rfl <;> first | rfl | assumption)) (fun w5 hw5 => ?_)
    try clear hw4
    refine l_assign rfl rfl rfl ?_
    refine l_nil ?_
    refine e_then ?_
    refine c_keep [4, 5] (.cons rfl (.cons rfl .nil)) ?_
    refine c_ret ?_
    refine e_blk_ret ?_
    refine e_then_ret ?_
    refine e_doneN Try.results44 (.cell rfl (load_agg_run hw5 mem1 Try.underlying61 rfl tz61 (.take (.take (.take .nil)))) (.tmp rfl .nil)) rfl ?_
    refine ⟨_, rfl, ?_⟩
    have hw6 := St.del (.tail .head) hw5
    try clear hw5
    have hw7 := St.del .head hw6
    try clear hw6
    exact ⟨_, _, _, _, rfl, hSh, (chk_none hno).symm, hw7.grows⟩
  · skip
    have hso : (kd k).isSome = true := by simpa using hc0
    rw [hso] at hSh
    obtain ⟨d, hd, rfl, rfl, rfl⟩ := hSh.yes
    have hSh2 : ShR k d.M (-(d.l : Int)) d.A (kd k).isSome := by rw [hso]; exact hSh
    have hbd := d.bd
    refine c_seq ?_
    refine c_region ?_
    refine l_field fo61_2 rfl rfl rfl ?_
    refine l_load_blk hw4 mem0 rfl rfl Try.underlying3 rfl rfl rfl ?_
    refine l_lss rfl rfl rfl rfl ?_
    refine l_move rfl rfl rfl ?_
    apply l_and 5 [4, 6] rfl rfl (.cons rfl (.cons rfl (.cons rfl .nil))) rfl rfl (fun _ => rfl) rfl rfl rfl
    · intro hg4_4
      refine l_move rfl rfl rfl ?_
      refine l_field fo61_2 rfl rfl rfl ?_
      refine l_load_blk hw4 mem0 rfl rfl Try.underlying3 rfl rfl rfl ?_
      refine l_shr rfl rfl rfl rfl (by omega) (shr_A d hb.1) ?_
      refine l_neq rfl rfl rfl rfl ?_
      refine l_nil ?_
      exact e_stays rfl (.cons rfl (congrArg Value.bool (decide_eq_true hg4_4).symm) (.cons rfl rfl (.cons rfl rfl .nil)))
    refine l_assign rfl rfl rfl ?_
    refine l_nil ?_
    refine e_then ?_
    refine c_keep [4, 6, 17] (.cons rfl (.cons rfl (.cons rfl .nil))) ?_
    first | refine c_cond rfl (fun hc1 => ?_) (fun hc1 => ?_) | refine c_condb rfl (fun hc1 => ?_) (fun hc1 => ?_)
    · skip
      refine c_seq ?_
      refine c_region ?_
      refine l_load_agg hw4 mem0 rfl rfl Try.underlying61 rfl tz61 rfl (.take (.take (.take .nil))) ?_
      refine l_store_blks hw4 (.tail .head) (.zero (.zero (.zero .nil))) rfl tz61 rfl rfl (by first | (simp [Value.oneCell']; done) | (intro u hu; simp only [List.mem_cons, List.not_mem_nil, or_false] at hu; rcases hu with rfl | rfl | rfl <;> first | rfl | assumption)) (fun w8 hw8 => ?_)
      try clear hw4
      refine l_assign rfl rfl rfl ?_
      refine l_nil ?_
      refine e_then ?_
      refine c_keep [4, 5] (.cons rfl (.cons rfl .nil)) ?_
      refine c_ret ?_
      refine e_blk_ret ?_
      refine e_then_ret ?_
      refine e_doneN Try.results44 (.cell rfl (load_agg_run hw8 mem1 Try.underlying61 rfl tz61 (.take (.take (.take .nil)))) (.tmp rfl .nil)) rfl ?_
      refine ⟨_, rfl, ?_⟩
      have hw9 := St.del (.tail .head) hw8
      try clear hw8
      have hw10 := St.del .head hw9
      try clear hw9
      refine ⟨_, _, _, _, rfl, hSh2, ?_, hw10.grows⟩
      rcases kd_some hd with ⟨rfl, rfl⟩ | ⟨rfl, rfl⟩
      · have : ¬ b / 4294967296 = 0 := hc1.2
        unfold chk; rw [if_pos rfl, if_neg (by omega)]
      · exact absurd hc1.1 (by decide)
    · skip
      refine c_skip ?_
      refine e_blk ?_
      refine e_then ?_
      refine c_keep [4, 6] (.cons rfl (.cons rfl .nil)) ?_
      refine c_seq ?_
      refine c_region ?_
      refine l_load_agg hw4 mem0 rfl rfl Try.underlying61 rfl tz61 rfl (.take (.take (.take .nil))) ?_
      refine l_store_blks hw4 (.tail .head) (.zero (.zero (.zero .nil))) rfl tz61 rfl rfl (by first | (simp [Value.oneCell']; done) | (intro u hu; simp only [List.mem_cons, List.not_mem_nil, or_false] at hu; rcases hu with rfl | rfl | rfl <;> first | rfl | assumption)) (fun w11 hw11 => ?_)
      try clear hw4
      refine l_assign rfl rfl rfl ?_
      refine l_nil ?_
      refine e_then ?_
      refine c_keep [4, 5] (.cons rfl (.cons rfl .nil)) ?_
      refine c_ret ?_
      refine e_doneN Try.results44 (.cell rfl (load_agg_run hw11 mem1 Try.underlying61 rfl tz61 (.take (.take (.take .nil)))) (.tmp rfl .nil)) rfl ?_
      refine ⟨_, rfl, ?_⟩
      have hw12 := St.del (.tail .head) hw11
      try clear hw11
      have hw13 := St.del .head hw12
      try clear hw12
      refine ⟨_, _, _, _, rfl, hSh2, ?_, hw13.grows⟩
      rcases kd_some hd with ⟨rfl, rfl⟩ | ⟨rfl, rfl⟩
      · have : b / 4294967296 = 0 := Classical.byContradiction fun h => hc1 ⟨by decide, h⟩
        unfold chk; rw [if_pos rfl, if_pos (by omega)]
      · rfl
theorem signedB (d : Kd) (neg : Bool) (b : Int) (hb : 0 ≤ b ∧ b < d.S) (w : World) :
    CallsV P 30 [.agg #[.int .i64 (d.M : Int), .int .i64 (-(d.l : Int)), .int .i64 (d.A : Int)], .bool neg, .int .u64 b] w fun r w' => r = .int .u64 (if neg then b + d.S else b) ∧ Grow w w' [] := by
  refine enterW Try.func30 rfl Try.ntmps30 rfl ?_
  have hw0 := St.start w
  have hbd := d.bd
  refine c_seq ?_
  refine c_region ?_
  refine l_box hw0 rfl rfl rfl (fun b0_0 w1 hw1 => ?_)
  try clear hw0
  refine l_assign rfl rfl rfl ?_
  refine l_nil ?_
  refine e_then ?_
  refine c_keep [1, 2, 3] (.cons rfl (.cons rfl (.cons rfl .nil))) ?_
  refine c_seq ?_
  refine c_seq ?_
  refine c_region ?_
  refine l_move rfl rfl rfl ?_
  refine l_nil ?_
  refine e_then ?_
  refine c_keep [2, 3, 7] (.cons rfl (.cons rfl (.cons rfl .nil))) ?_
  first | refine c_cond rfl (fun hc0 => ?_) (fun hc0 => ?_) | refine c_condb rfl (fun hc0 => ?_) (fun hc0 => ?_)
  · skip
    refine c_seq ?_
    refine c_region ?_
    refine l_move rfl rfl rfl ?_
    refine l_load_agg hw1 mem0 rfl rfl Try.underlying61 rfl tz61 rfl (.take (.take (.take .nil))) ?_
    refine l_call rfl rfl Try.func45 rfl rfl (.cons rfl .nil) (signB d w1) ?_
    rintro _ w2 ⟨rfl, hG⟩
    have hw2 := hG _ _ _ _ hw1
    try clear hG hw1
    simp only [List.cons_append, List.nil_append] at hw2
    refine l_bits rfl rfl rfl rfl rfl (or_S d hb) ?_
    refine l_assign rfl rfl rfl ?_
    refine l_nil ?_
    refine e_then ?_
    refine c_keep [6] (.cons rfl .nil) ?_
    refine c_ret ?_
    refine e_then_ret ?_
    refine e_done1 Try.results30 rfl ?_
    refine ⟨_, rfl, ?_⟩
    have hw3 := St.del .head hw2
    try clear hw2
    exact ⟨by subst_vars; rfl, hw3.grows⟩
  · skip
    refine c_skip ?_
    refine e_then ?_
    refine c_keep [2] (.cons rfl .nil) ?_
    refine c_seq ?_
    refine c_region ?_
    refine l_move rfl rfl rfl ?_
    refine l_assign rfl rfl rfl ?_
    refine l_nil ?_
    refine e_then ?_
    refine c_keep [6] (.cons rfl .nil) ?_
    refine c_ret ?_
    refine e_done1 Try.results30 rfl ?_
    refine ⟨_, rfl, ?_⟩
    have hw4 := St.del .head hw1
    try clear hw1
    exact ⟨by simp_all, hw4.grows⟩
end Go.Proofs.Ytmcbdgpcbcldjaa.W
