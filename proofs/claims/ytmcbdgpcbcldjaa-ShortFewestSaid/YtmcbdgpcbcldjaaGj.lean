/- walks of the document's against, at, Near, signed, Round, Join; laws BitsRounds, BitsJoins -/
import Derived.Test.YtmcbdgpcbcldjaaGh
set_option linter.unusedVariables false
set_option linter.unusedSimpArgs false
set_option maxRecDepth 10000
namespace Go.Proofs.Ytmcbdgpcbcldjaa.W
open Go.Vc Go.RowKit
theorem blen_mul {x y : Int} (hx0 : 0 ≤ x) (hy0 : 0 ≤ y) {m n : Nat} (hx : Ma.blen x ≤ m) (hy : Ma.blen y ≤ n) : Ma.blen (x * y) ≤ (m + n : Nat) := by
  refine (Ma.blen_le_iff (Int.mul_nonneg hx0 hy0) (m + n)).2 ?_
  have h1 := (Ma.blen_le_iff hx0 m).1 hx
  have h2 := (Ma.blen_le_iff hy0 n).1 hy
  have h3 : x * y ≤ x * 2 ^ n := Int.mul_le_mul_of_nonneg_left (by omega) hx0
  have h4 : (x + 1) * 2 ^ n ≤ 2 ^ m * 2 ^ n := Int.mul_le_mul_of_nonneg_right (by omega) (by omega)
  have hp := Ma.pow_pos (show (0 : Int) < 2 by omega) n
  rw [Int.pow_add]
  rw [Int.add_mul] at h4
  omega


theorem cmpI_mul {a b p : Int} (hp : 0 < p) : cmpI (a * p) (b * p) = cmpI a b := by
  unfold cmpI
  have h1 : a * p < b * p ↔ a < b := Int.mul_lt_mul_right hp
  have h2 : b * p < a * p ↔ b < a := Int.mul_lt_mul_right hp
  simp only [h1, h2]
theorem cmpI_le {a b : Int} : cmpI a b ≤ 0 ↔ a ≤ b := by unfold cmpI; (repeat' split) <;> omega
theorem cmpI_0 {a b : Int} : cmpI a b = 0 ↔ a = b := by unfold cmpI; (repeat' split) <;> omega
theorem cmpI_lt0 {a b : Int} : cmpI a b < 0 ↔ a < b := by unfold cmpI; (repeat' split) <;> omega
theorem R16.lt16 {l : List Int} {n : Int} (h : R16 l n) : n < 2 ^ (16 * l.length) := by
  have h1 := Ma.vb_lt (show (0 : Int) < 65536 by omega) h.dg
  rw [h.val, show (65536 : Int) = 2 ^ 16 from rfl, ← Int.pow_mul] at h1
  exact h1
theorem R16.len_lt {l : List Int} {n : Int} (h : R16 l n) {k : Nat} (hb : n < 2 ^ k) : 16 * l.length ≤ k + 16 := h.len (k := k) ((Ma.blen_le_iff (h.nonneg (by omega)) k).2 hb)
theorem R16.len_mul {a b c : List Int} {x y : Int} (ha : R16 a x) (hb : R16 b y) (hc : R16 c (x * y)) : c.length ≤ a.length + b.length + 1 := by
  have h0 := hb.nonneg (by omega)
  have h1 : x * y ≤ x * 2 ^ (16 * b.length) := Int.mul_le_mul_of_nonneg_left (Int.le_of_lt hb.lt16) (ha.nonneg (by omega))
  have h2 : x * 2 ^ (16 * b.length) < 2 ^ (16 * a.length) * 2 ^ (16 * b.length) := Int.mul_lt_mul_of_pos_right ha.lt16 (Ma.pow_pos (by omega) _)
  rw [← Int.pow_add] at h2
  have := hc.len_lt (k := 16 * a.length + 16 * b.length) (by omega)
  omega
theorem R16.len_left {a c : List Int} {x : Int} {N : Nat} (ha : R16 a x) (hc : R16 c (x * 2 ^ N)) : 16 * c.length ≤ 16 * a.length + N + 16 := by
  have h2 : x * 2 ^ N < 2 ^ (16 * a.length) * 2 ^ N := Int.mul_lt_mul_of_pos_right ha.lt16 (Ma.pow_pos (by omega) _)
  rw [← Int.pow_add] at h2
  exact hc.len_lt h2
/-- a float's value: whole number and exponent, in units of the least float -/
theorem fv_spl (d : Kd) {b : Int} (hb : 0 ≤ b ∧ b < d.I) : 0 ≤ splE d b + d.l ∧ splE d b ≤ 1000 ∧ 0 ≤ splM d b ∧ splM d b ≤ 9007199254740992 ∧ fv d.H b = splM d b * 2 ^ (splE d b + d.l).toNat ∧ fv d.H (b + 1) = (splM d b + 1) * 2 ^ (splE d b + d.l).toNat := by
  have hbd := d.bd
  have hH53 : d.H ≤ 4503599627370496 := by cases d <;> decide
  have hm : b % d.S = b := Int.emod_eq_of_lt hb.1 (by omega)
  have hq := quo_H d hb.1 hb.2
  have hX : b / d.H - 1 - d.l ≤ 1000 := by
    cases d
    · have h2 : b < 2139095040 := hb.2
      show b / 8388608 - 1 - 149 ≤ 1000; omega
    · have h2 : b < 9218868437227405312 := hb.2
      show b / 4503599627370496 - 1 - 1074 ≤ 1000; omega
  have e := Int.emod_add_mul_ediv b d.H
  unfold splE splM
  rw [hm]
  by_cases h : b < d.H
  · rw [if_pos h, if_pos h, show (-(d.l : Int) + d.l) = 0 by omega]
    have e1 := fv_of hbd.1 0 hb.1 (by omega) (.inl rfl)
    have e2 := fv_of (x := b + 1) hbd.1 0 (by omega) (by omega) (.inl rfl)
    rw [show ((0 : Nat) : Int) * d.H = 0 by simp, Int.add_zero] at e1 e2
    exact ⟨by omega, by omega, hb.1, by omega, e1, e2⟩
  · rw [if_neg h, if_neg h]
    obtain ⟨u, hu⟩ : ∃ u : Nat, b / d.H = u + 1 := ⟨(b / d.H - 1).toNat, by omega⟩
    have hbu : b = (b % d.H + d.H) + u * d.H := by
      rw [hu, Int.mul_add, Int.mul_comm d.H u] at e; omega
    have e1 := fv_of (x := b % d.H + d.H) hbd.1 u (by omega) (by omega) (.inr (by omega))
    have e2 := fv_of (x := b % d.H + d.H + 1) hbd.1 u (by omega) (by omega) (.inr (by omega))
    rw [← hbu] at e1
    rw [show b % d.H + d.H + 1 + u * d.H = b + 1 by omega] at e2
    rw [show (-(d.l : Int) + (b / d.H - 1) + d.l).toNat = u by omega]
    exact ⟨by omega, by omega, by omega, by omega, e1, e2⟩
/-- the document's comparison, in units of the least float -/
theorem against_eq {m n dd e : Int} {l : Nat} (hl : 0 ≤ e + l) : (if 0 ≤ e then cmpI (m * dd * 2 ^ e.toNat) n else cmpI (m * dd) (n * 2 ^ (0 - e).toNat)) = cmpI (m * 2 ^ (e + l).toNat * dd) (n * 2 ^ l) := by
  have hp : ∀ k : Nat, (0 : Int) < 2 ^ k := fun k => Ma.pow_pos (by omega) k
  split
  · rename_i h
    rw [← cmpI_mul (hp l), show (e + l).toNat = e.toNat + l by omega, Int.pow_add, Int.mul_assoc, Int.mul_right_comm m]
  · rename_i h
    rw [← cmpI_mul (hp (e + l).toNat), Int.mul_assoc n, ← Int.pow_add, show (0 - e).toNat + (e + l).toNat = l by omega, Int.mul_right_comm m]
theorem near_exact {d : Kd} {N D b : Int} (hD : 0 < D) (hb : 0 ≤ b ∧ b ≤ d.I - 1) (h : fv d.H b * D = N) : RndR d.H (d.I - 1) N D (b, true, 0) := by
  have hbd := d.bd
  have hI := d.I_lt
  have hl := fv_lt hbd.1 hb.1
  have hlD := Int.mul_lt_mul_of_pos_right hl hD
  have hu : ¬ upR d.H N D b := by
    unfold upR
    rw [Int.add_mul]
    omega
  have := RndR.of hbd.1 hD (by omega) hI.2.1 hb.1 (Int.le_of_eq h) (by omega)
  rw [if_neg hu, if_pos (by omega), decide_eq_true h] at this
  exact this
theorem near_up {d : Kd} {N D b : Int} (hD : 0 < D) (hb : 0 ≤ b ∧ b ≤ d.I - 1) (h : fv d.H b * D ≤ N) (h2 : b = d.I - 1 ∨ N < fv d.H (b + 1) * D) (hu : upR d.H N D b) :
    RndR d.H (d.I - 1) N D (if b = d.I - 1 then (0, false, 34) else (b + 1, false, 0)) := by
  have hbd := d.bd
  have hI := d.I_lt
  have hne : ¬ fv d.H b * D = N := by
    intro e
    have hlD := Int.mul_lt_mul_of_pos_right (fv_lt hbd.1 hb.1) hD
    unfold upR at hu
    rw [Int.add_mul] at hu
    omega
  by_cases hg : b = d.I - 1
  · rw [if_pos hg]
    subst hg
    refine .inl ⟨?_, rfl⟩
    unfold upR at hu
    omega
  · rw [if_neg hg]
    have := RndR.of hbd.1 hD (by omega) hI.2.1 hb.1 h (h2.resolve_left hg)
    rw [if_pos hu, if_pos (by omega), decide_eq_false hne] at this
    exact this
theorem near_down {d : Kd} {N D b : Int} (hD : 0 < D) (hb : 0 ≤ b ∧ b ≤ d.I - 1) (h : fv d.H b * D ≤ N) (h2 : b = d.I - 1 ∨ N < fv d.H (b + 1) * D) (hne : ¬ fv d.H b * D = N) (hu : ¬ upR d.H N D b) : RndR d.H (d.I - 1) N D (b, false, 0) := by
  have hbd := d.bd
  have hI := d.I_lt
  have h3 : N < fv d.H (b + 1) * D := by
    rcases h2 with h2 | h2
    · have hlD := Int.mul_lt_mul_of_pos_right (fv_lt hbd.1 hb.1) hD
      unfold upR at hu
      rw [Int.add_mul] at hu
      omega
    · exact h2
  have := RndR.of hbd.1 hD (by omega) hI.2.1 hb.1 h h3
  rw [if_neg hu, if_pos (by omega), decide_eq_false hne] at this
  exact this

theorem against3 (vm : Value) (lm : List Int) (m e : Int) (hRm : R16 lm m) (hLm : lm.length ≤ 4096) (he : -4000 ≤ e ∧ e ≤ 4000) (vn vd : Value) (ln ld : List Int) (n dd : Int) (hRn : R16 ln n) (hRd : R16 ld dd) (hLn : ln.length ≤ 4096) (hLd : ld.length ≤ 4096) (w : World) (hm : IV w vm (ints .i64 lm)) (hn : IV w vn (ints .i64 ln)) (hd : IV w vd (ints .i64 ld)) :
    CallsV P 84 [vm, .int .i64 e, vn, vd] w fun r w' => r = .int .i64 (if 0 ≤ e then cmpI (m * dd * 2 ^ e.toNat) n else cmpI (m * dd) (n * 2 ^ (0 - e).toNat)) ∧ Grow w w' [] := by
  refine enterW Try.func84 rfl Try.ntmps84 rfl ?_
  have hw0 := St.start w
  refine c_seq ?_
  refine c_region ?_
  refine l_assign rfl rfl rfl ?_
  refine l_nil ?_
  refine e_then ?_
  refine c_keep [0, 1, 2, 3] (.cons rfl (.cons rfl (.cons rfl (.cons rfl .nil)))) ?_
  refine c_seq ?_
  refine c_region ?_
  refine l_move rfl rfl rfl ?_
  refine l_move rfl rfl rfl ?_
  refine l_call rfl rfl Try.func24 rfl rfl (.cons rfl (.cons rfl .nil)) (prodR _ _ _ _ _ _ hRm hRd (by omega) (by omega) w (hw0.iarg hm) (hw0.iarg hd)) ?_
  rintro vx w1 ⟨_, lx, rfl, hRx, hG⟩
  have hw1 := hG _ _ _ _ hw0
  try clear hG hw0
  simp only [List.cons_append, List.nil_append] at hw1
  have hlx := hRm.len_mul hRd hRx
  refine l_assign rfl rfl rfl ?_
  refine l_nil ?_
  refine e_then ?_
  refine c_keep [1, 2, 9] (.cons rfl (.cons rfl (.cons rfl .nil))) ?_
  refine c_seq ?_
  refine c_seq ?_
  refine c_region ?_
  refine l_move rfl rfl rfl ?_
  refine l_geq rfl rfl rfl rfl ?_
  refine l_nil ?_
  refine e_then ?_
  refine c_keep [1, 2, 9, 14] (.cons rfl (.cons rfl (.cons rfl (.cons rfl .nil)))) ?_
  first | refine c_cond rfl (fun hc0 => ?_) (fun hc0 => ?_) | refine c_condb rfl (fun hc0 => ?_) (fun hc0 => ?_)
  · skip
    refine c_seq ?_
    refine c_region ?_
    refine l_move rfl rfl rfl ?_
    refine l_move rfl rfl rfl ?_
    refine l_turn (s := 16) (v' := .int .i64 ((e.toNat : Nat) : Int)) rfl (by rw [Int.toNat_of_nonneg hc0]) ?_
    refine l_call rfl rfl Try.func47 rfl rfl (.cons rfl (.cons rfl .nil)) (leftR vx lx _ hRx (by omega) e.toNat (by omega) w1 (hw1.io mem0)) ?_
    rintro vy w2 ⟨_, ly, rfl, hRy, hG⟩
    have hw2 := hG _ _ _ _ hw1
    try clear hG hw1
    simp only [List.cons_append, List.nil_append] at hw2
    refine l_move rfl rfl rfl ?_
    refine l_call rfl rfl Try.func26 rfl rfl (.cons rfl (.cons rfl .nil)) (cmpR _ _ _ _ _ _ hRy hRn (by have := hRx.len_left hRy; omega) (by omega) w2 (hw2.io mem0) (hw2.iarg hn)) ?_
    rintro _ w3 ⟨rfl, hG⟩
    have hw3 := hG _ _ _ _ hw2
    try clear hG hw2
    simp only [List.cons_append, List.nil_append] at hw3
    refine l_assign rfl rfl rfl ?_
    refine l_nil ?_
    refine e_then ?_
    refine c_keep [8] (.cons rfl .nil) ?_
    refine c_ret ?_
    refine e_then_ret ?_
    refine e_done1 Try.results84 rfl ?_
    refine ⟨_, rfl, ?_⟩
    have hw4 := St.del (.tail .head) hw3
    try clear hw3
    have hw5 := St.del .head hw4
    try clear hw4
    exact ⟨by rw [if_pos hc0], hw5.grows⟩
  · skip
    refine c_skip ?_
    refine e_then ?_
    refine c_keep [1, 2, 9] (.cons rfl (.cons rfl (.cons rfl .nil))) ?_
    refine c_seq ?_
    refine c_region ?_
    refine l_move rfl rfl rfl ?_
    refine l_move rfl rfl rfl ?_
    refine l_move rfl rfl rfl ?_
    refine l_neg rfl rfl rfl (w_i64 (by omega)) ?_
    refine l_turn (s := 23) (v' := .int .i64 (((0 - e).toNat : Nat) : Int)) rfl (by rw [Int.toNat_of_nonneg (by omega)]) ?_
    refine l_call rfl rfl Try.func47 rfl rfl (.cons rfl (.cons rfl .nil)) (leftR vn ln _ hRn (by omega) (0 - e).toNat (by omega) w1 (hw1.iarg hn)) ?_
    rintro vy w6 ⟨_, ly, rfl, hRy, hG⟩
    have hw6 := hG _ _ _ _ hw1
    try clear hG hw1
    simp only [List.cons_append, List.nil_append] at hw6
    refine l_call rfl rfl Try.func26 rfl rfl (.cons rfl (.cons rfl .nil)) (cmpR _ _ _ _ _ _ hRx hRy (by omega) (by have := hRn.len_left hRy; omega) w6 (hw6.io mem1) (hw6.io mem0)) ?_
    rintro _ w7 ⟨rfl, hG⟩
    have hw7 := hG _ _ _ _ hw6
    try clear hG hw6
    simp only [List.cons_append, List.nil_append] at hw7
    refine l_assign rfl rfl rfl ?_
    refine l_nil ?_
    refine e_then ?_
    refine c_keep [8] (.cons rfl .nil) ?_
    refine c_ret ?_
    refine e_done1 Try.results84 rfl ?_
    refine ⟨_, rfl, ?_⟩
    have hw8 := St.del (.tail .head) hw7
    try clear hw7
    have hw9 := St.del .head hw8
    try clear hw8
    exact ⟨by rw [if_neg hc0], hw9.grows⟩

theorem nv_one (x : Int) : nv [x] = x := by show x + _ * 0 = x; omega
theorem spl_fin {k b : Int} {d : Kd} (hk : kd k = some d) (hb : 0 ≤ b ∧ b < d.I) : splF k b = (false, splM d b, splE d b, 0) := by
  have hbd := d.bd
  unfold splF
  rw [ofk_ok hk (chk_some hk (by omega)), Int.emod_eq_of_lt hb.1 (by omega), if_neg (by omega), decide_eq_false (by omega)]


theorem split3f {k b : Int} {d : Kd} (hk : kd k = some d) (hb : 0 ≤ b ∧ b < d.I) (w : World) : CallsV P 64 [.int .i64 k, .int .u64 b] w fun r w' => r = .tuple #[.agg #[.bool false, .int .u64 (splM d b), .int .i64 (splE d b)], .int .i64 0] ∧ Grow w w' [] := by
  have hbd := d.bd
  refine (split3 k b (by omega) w).mono ?_
  rintro r w' ⟨rfl, hG⟩
  rw [spl_fin hk hb]
  exact ⟨rfl, hG⟩

theorem at3 (k : Int) (d : Kd) (hk : kd k = some d) (b : Int) (hb : 0 ≤ b ∧ b < d.I) (vn vd : Value) (ln ld : List Int) (n dd : Int) (hRn : R16 ln n) (hRd : R16 ld dd) (hLn : ln.length ≤ 4096) (hLd : ld.length ≤ 4096) (w : World) (hn : IV w vn (ints .i64 ln)) (hd : IV w vd (ints .i64 ld)) :
    CallsV P 83 [.int .i64 k, .int .u64 b, vn, vd] w fun r w' => r = .int .i64 (cmpI (fv d.H b * dd) (n * 2 ^ d.l)) ∧ Grow w w' [] := by
  refine enterW Try.func83 rfl Try.ntmps83 rfl ?_
  have hw0 := St.start w
  have hbd := d.bd
  have h9 := kd_9 hk
  have hsp := spl_fin hk hb
  have hfs := fv_spl d hb
  have hM64 : 0 ≤ splM d b ∧ splM d b ≤ 18446744073709551615 := by omega
  refine c_seq ?_
  refine c_region ?_
  refine l_assign rfl rfl rfl ?_
  refine l_nil ?_
  refine e_then ?_
  refine c_keep [0, 1, 2, 3] (.cons rfl (.cons rfl (.cons rfl (.cons rfl .nil)))) ?_
  refine c_seq ?_
  refine c_region ?_
  refine l_move rfl rfl rfl ?_
  refine l_move rfl rfl rfl ?_
  refine l_call rfl rfl Try.func64 rfl rfl (.cons rfl (.cons rfl .nil)) (split3f hk hb w) ?_
  rintro _ w1 ⟨rfl, hG⟩
  have hw1 := hG _ _ _ _ hw0
  try clear hG hw0
  simp only [List.cons_append, List.nil_append] at hw1
  refine l_move rfl rfl rfl ?_
  refine l_extract rfl rfl rfl rfl ?_
  refine l_extract rfl rfl rfl rfl ?_
  refine l_alloc hw1 ta27 rfl rfl (fun b1_6 w2 hw2 => ?_)
  try clear hw1
  refine l_store_blks hw2 .head (.zero (.zero (.zero .nil))) rfl tz27 rfl rfl (by first | (simp [Value.oneCell']; done) | (intro u hu; simp only [List.mem_cons, List.not_mem_nil, or_false] at hu; rcases hu with rfl | rfl | rfl <;> first | rfl | assumption)) (fun w3 hw3 => ?_)
  try clear hw2
  refine l_assign rfl rfl rfl ?_
  refine l_nil ?_
  refine e_then ?_
  refine c_keep [2, 3, 9] (.cons rfl (.cons rfl (.cons rfl .nil))) ?_
  refine c_seq ?_
  have hw4 := hw3.drewn
  try clear hw3
  refine c_any (n := 10) [false, false, false, false, false, false, false, false, false, false] (fun wS => (As.blk b1_6 27 [.bool false, .int .u64 (splM d b), .int .i64 (splE d b)]).ok wS) (by kernel_rfl) rfl rfl ?_
  apply a_take (L' := [true, false, false, false, false, false, false, false, false, false]) 0 rfl (by kernel_rfl) (by kernel_rfl) (by kernel_rfl) rfl rfl rfl rfl rfl (hw4.ok mem0)
  · intro wS sS
    refine l_field fo27_1 rfl rfl rfl ?_
    refine l_nil ?_
    exact e_got rfl
  apply a_take (L' := [true, true, false, false, false, false, false, false, false, false]) 1 rfl (by kernel_rfl) (by kernel_rfl) (by kernel_rfl) rfl rfl rfl rfl rfl (hw4.ok mem0)
  · intro wS sS
    refine l_load_blk (blk_st sS) mem0 rfl rfl Try.underlying22 rfl rfl rfl ?_
    refine l_nil ?_
    exact e_got rfl
  apply a_take (L' := [true, true, false, false, true, false, false, false, false, false]) 4 rfl (by kernel_rfl) (by kernel_rfl) (by kernel_rfl) rfl rfl rfl rfl rfl (hw4.ok mem0)
  · intro wS sS
    refine l_field fo27_2 rfl rfl rfl ?_
    refine l_nil ?_
    exact e_got rfl
  apply a_take (L' := [true, true, false, false, true, true, false, false, false, false]) 5 rfl (by kernel_rfl) (by kernel_rfl) (by kernel_rfl) rfl rfl rfl rfl rfl (hw4.ok mem0)
  · intro wS sS
    refine l_load_blk (blk_st sS) mem0 rfl rfl Try.underlying3 rfl rfl rfl ?_
    refine l_nil ?_
    exact e_got rfl
  apply a_take (L' := [true, true, false, false, true, true, true, false, false, false]) 6 rfl (by kernel_rfl) (by kernel_rfl) (by kernel_rfl) rfl rfl rfl rfl rfl (hw4.ok mem0)
  · intro wS sS
    refine l_move rfl rfl rfl ?_
    refine l_nil ?_
    exact e_got rfl
  apply a_take (L' := [true, true, false, false, true, true, true, true, false, false]) 7 rfl (by kernel_rfl) (by kernel_rfl) (by kernel_rfl) rfl rfl rfl rfl rfl (hw4.ok mem0)
  · intro wS sS
    refine l_move rfl rfl rfl ?_
    refine l_nil ?_
    exact e_got rfl
  refine a_one (L' := [true, true, true, false, true, true, true, true, false, false]) 2 (by kernel_rfl) rfl rfl ?_
  refine v_lit hw4 rfl rfl Try.underlying66 ti22 rfl (.cons rfl (by first | rfl | assumption) .nil) rfl rfl rfl (fun b2_2 w5 hw5 => ?_)
  try clear hw4
  refine l_nil ?_
  refine e_any (hw5.ok mem1) ?_
  refine a_one (L' := [true, true, true, true, true, true, true, true, false, false]) 3 (by kernel_rfl) rfl rfl ?_
  refine l_call rfl rfl Try.func23 rfl rfl (.cons rfl .nil) (numR _ [splM d b] (U.one hM64) (by simp) w5 (hw5.ibl mem0)) ?_
  rintro vm w6 ⟨_, lm, rfl, hRm, hG⟩
  have hw6 := hG _ _ _ _ hw5
  try clear hG hw5
  simp only [List.cons_append, List.nil_append] at hw6
  have hRm2 : R16 lm (splM d b) := by have := hRm; rw [show Ma.vb 18446744073709551616 [splM d b] = splM d b from nv_one _] at this; exact this
  refine l_nil ?_
  refine e_any (hw6.ok mem2) ?_
  refine a_one (L' := [true, true, true, true, true, true, true, true, true, false]) 8 (by kernel_rfl) rfl rfl ?_
  refine l_call rfl rfl Try.func84 rfl rfl (.cons rfl (.cons rfl (.cons rfl (.cons rfl .nil)))) (against3 vm lm (splM d b) (splE d b) hRm2 (by have := R16.len_num (U.one hM64) hRm; simp at this; omega) (by omega) vn vd ln ld n dd hRn hRd hLn hLd w6 (hw6.io mem0) (hw6.iarg hn) (hw6.iarg hd)) ?_
  rintro _ w7 ⟨rfl, hG⟩
  have hw7 := hG _ _ _ _ hw6
  try clear hG hw6
  simp only [List.cons_append, List.nil_append] at hw7
  refine l_nil ?_
  refine e_any (hw7.ok mem2) ?_
  apply a_take (L' := [true, true, true, true, true, true, true, true, true, true]) 9 rfl (by kernel_rfl) (by kernel_rfl) (by kernel_rfl) rfl rfl rfl rfl rfl (hw7.ok mem2)
  · intro wS sS
    refine l_assign rfl rfl rfl ?_
    refine l_nil ?_
    exact e_got rfl
  refine a_done (by kernel_rfl) ?_
  refine e_then ?_
  refine c_keep [8] (.cons rfl .nil) ?_
  refine c_ret ?_
  refine e_done1 Try.results83 rfl ?_
  refine ⟨_, rfl, ?_⟩
  have hw8 := St.del (.tail (.tail .head)) hw7
  try clear hw7
  have hw9 := St.del (.tail .head) hw8
  try clear hw8
  have hw10 := St.del .head hw9
  try clear hw9
  refine ⟨?_, hw10.grows⟩
  rw [against_eq hfs.1, hfs.2.2.2.2.1]
theorem near3 (k : Int) (d : Kd) (hk : kd k = some d) (vn vd : Value) (ln ld : List Int) (n dd : Int) (hRn : R16 ln n) (hRd : R16 ld dd) (hLn : ln.length ≤ 4096) (hLd : ld.length ≤ 4096) (hdp : 0 < dd) (hn0 : 0 ≤ n) (w : World) (hn : IV w vn (ints .i64 ln)) (hd : IV w vd (ints .i64 ld)) :
    CallsV P 65 [.int .i64 k, vn, vd] w fun r w' => ∃ t : Int × Bool × Int, r = .tuple #[.int .u64 t.1, .bool (decide (t.2.2 = 0)), .bool t.2.1] ∧ RndR d.H (d.I - 1) (n * 2 ^ d.l) dd t ∧ Grow w w' [] := by
  refine enterW Try.func65 rfl Try.ntmps65 rfl ?_
  have hw0 := St.start w
  have hbd := d.bd
  have h9 := kd_9 hk
  have hI := d.I_lt
  obtain ⟨N, hN⟩ : ∃ N, N = n * 2 ^ d.l := ⟨_, rfl⟩
  have hN0 : 0 ≤ N := by rw [hN]; exact Int.mul_nonneg hn0 (Int.le_of_lt (p2 _))
  refine c_seq ?_
  refine c_region ?_
  refine l_assign rfl rfl rfl ?_
  refine l_assign rfl rfl rfl ?_
  refine l_assign rfl rfl rfl ?_
  refine l_nil ?_
  refine e_then ?_
  refine c_keep [0, 1, 2] (.cons rfl (.cons rfl (.cons rfl .nil))) ?_
  refine c_seq ?_
  refine c_region ?_
  refine l_move rfl rfl rfl ?_
  refine l_callp rfl rfl Try.func49 rfl rfl (.cons rfl .nil) (greatest3 k d hk w) ?_
  refine l_assign rfl rfl rfl ?_
  refine l_assign rfl rfl rfl ?_
  refine l_nil ?_
  refine e_then ?_
  refine c_keep [0, 1, 2, 9, 10] (.cons rfl (.cons rfl (.cons rfl (.cons rfl (.cons rfl .nil))))) ?_
  refine c_cutk (ι := Int) (fun (lo0 : Int) (w' : World) => St w w.heap.size None' ([]) w' ∧ fv d.H lo0 * dd ≤ N ∧ (lo0 = d.I - 1 ∨ lo0 = 0 ∧ N < fv d.H (d.I - 1) * dd)) (fun (lo0 : Int) => [(9, .int .u64 lo0)]) [0, 1, 2, 10] (.cons rfl (.cons rfl (.cons rfl (.cons rfl .nil)))) ?_ ?_
  · skip
    refine c_seq ?_
    refine c_region ?_
    refine l_move rfl rfl rfl ?_
    refine l_move rfl rfl rfl ?_
    refine l_move rfl rfl rfl ?_
    refine l_move rfl rfl rfl ?_
    refine l_call rfl rfl Try.func83 rfl rfl (.cons rfl (.cons rfl (.cons rfl (.cons rfl .nil)))) (at3 k d hk (d.I - 1) (by omega) vn vd ln ld n dd hRn hRd hLn hLd w (hw0.iarg hn) (hw0.iarg hd)) ?_
    rintro _ w1 ⟨rfl, hG⟩
    have hw1 := hG _ _ _ _ hw0
    try clear hG hw0
    simp only [List.cons_append, List.nil_append] at hw1
    refine l_leq rfl rfl rfl rfl ?_
    refine l_nil ?_
    refine e_then ?_
    refine c_keep [0, 1, 2, 9, 10, 22] (.cons rfl (.cons rfl (.cons rfl (.cons rfl (.cons rfl (.cons rfl .nil)))))) ?_
    first | refine c_cond rfl (fun hc0 => ?_) (fun hc0 => ?_) | refine c_condb rfl (fun hc0 => ?_) (fun hc0 => ?_)
    · skip
      refine c_region ?_
      refine l_move rfl rfl rfl ?_
      refine l_assign rfl rfl rfl ?_
      refine l_nil ?_
      refine e_meetk (d.I - 1) ?_ (.cons rfl (.cons rfl (.cons rfl (.cons rfl .nil)))) ?_
      · rw [← hN] at hc0
        exact ⟨hw1, cmpI_le.1 hc0, .inl rfl⟩
      · exact (.cons rfl (by first | rfl | (refine congrArg (Value.int _) ?_; omega)) .nil)
    · skip
      refine c_skip ?_
      refine e_meetk (0) ?_ (.cons rfl (.cons rfl (.cons rfl (.cons rfl .nil)))) ?_
      · rw [← hN] at hc0
        have hlt0 : ¬ fv d.H (d.I - 1) * dd ≤ N := fun h => hc0 (cmpI_le.2 h)
        exact ⟨hw1, by rw [fv_zero hbd.1, Int.zero_mul]; exact hN0, .inr ⟨rfl, by omega⟩⟩
      · exact (.cons rfl (by first | rfl | (refine congrArg (Value.int _) ?_; omega)) .nil)
  rintro lo0 w2 ⟨hw2, hlo0, hlo1⟩
  show RunC P _ _ _ (_ :: _) _
  refine c_seq ?_
  refine c_block ?_
  refine c_loopk (ι := Int × Int) (fun (z0 : Int × Int) => match z0 with | ⟨lo, hi⟩ => (hi - lo).toNat) (fun (z0 : Int × Int) (w' : World) => match z0 with | ⟨lo, hi⟩ => St w w.heap.size None' ([]) w' ∧ 0 ≤ lo ∧ lo ≤ hi ∧ hi ≤ d.I - 1 ∧ fv d.H lo * dd ≤ N ∧ (lo = hi ∧ lo = d.I - 1 ∨ lo < hi ∧ N < fv d.H hi * dd)) (fun (z0 : Int × Int) => match z0 with | ⟨lo, hi⟩ => [(9, .int .u64 lo), (10, .int .u64 hi)]) [0, 1, 2] (lo0, d.I - 1) ?_ (.cons rfl (.cons rfl (.cons rfl .nil))) ?_ ?_
  · exact ⟨hw2, by omega, by omega, by omega, hlo0, by rcases hlo1 with h | h; exact .inl ⟨h, h⟩; exact .inr ⟨by omega, h.2⟩⟩
  · exact (.cons rfl (by first | rfl | (refine congrArg (Value.int _) ?_; omega)) (.cons rfl (by first | rfl | (refine congrArg (Value.int _) ?_; omega)) .nil))
  rintro ⟨lo, hi⟩ w3 ⟨hw3, hl0, hlh, hhi, hlo, hcs⟩
  show RunC P _ _ _ (_ :: _) _
  refine c_seq ?_
  refine c_seq ?_
  refine c_region ?_
  refine l_move rfl rfl rfl ?_
  refine l_move rfl rfl rfl ?_
  refine l_sub rfl rfl rfl rfl (w_u64 (by omega)) ?_
  refine l_gtr rfl rfl rfl rfl ?_
  refine l_nil ?_
  refine e_then ?_
  refine c_keep [0, 1, 2, 9, 10, 27] (.cons rfl (.cons rfl (.cons rfl (.cons rfl (.cons rfl (.cons rfl .nil)))))) ?_
  first | refine c_cond rfl (fun hc1 => ?_) (fun hc1 => ?_) | refine c_condb rfl (fun hc1 => ?_) (fun hc1 => ?_)
  · skip
    refine c_skip ?_
    refine e_then ?_
    refine c_keep [0, 1, 2, 9, 10] (.cons rfl (.cons rfl (.cons rfl (.cons rfl (.cons rfl .nil))))) ?_
    refine c_block ?_
    refine c_seq ?_
    refine c_region ?_
    refine l_move rfl rfl rfl ?_
    refine l_move rfl rfl rfl ?_
    refine l_move rfl rfl rfl ?_
    refine l_sub rfl rfl rfl rfl (w_u64 (by omega)) ?_
    refine l_quo rfl rfl rfl rfl (by omega) (q_u64 (by omega)) ?_
    refine l_add rfl rfl rfl rfl (w_u64 (by omega)) ?_
    refine l_assign rfl rfl rfl ?_
    refine l_nil ?_
    refine e_then ?_
    refine c_keep [0, 1, 2, 9, 10, 11] (.cons rfl (.cons rfl (.cons rfl (.cons rfl (.cons rfl (.cons rfl .nil)))))) ?_
    refine c_seq ?_
    refine c_region ?_
    refine l_move rfl rfl rfl ?_
    refine l_move rfl rfl rfl ?_
    refine l_move rfl rfl rfl ?_
    refine l_move rfl rfl rfl ?_
    refine l_call rfl rfl Try.func83 rfl rfl (.cons rfl (.cons rfl (.cons rfl (.cons rfl .nil)))) (at3 k d hk (lo + (hi - lo) / 2) (by omega) vn vd ln ld n dd hRn hRd hLn hLd w3 (hw3.iarg hn) (hw3.iarg hd)) ?_
    rintro _ w4 ⟨rfl, hG⟩
    have hw4 := hG _ _ _ _ hw3
    try clear hG hw3
    simp only [List.cons_append, List.nil_append] at hw4
    refine l_leq rfl rfl rfl rfl ?_
    refine l_nil ?_
    refine e_then ?_
    refine c_keep [0, 1, 2, 9, 10, 11, 39] (.cons rfl (.cons rfl (.cons rfl (.cons rfl (.cons rfl (.cons rfl (.cons rfl .nil))))))) ?_
    first | refine c_cond rfl (fun hc2 => ?_) (fun hc2 => ?_) | refine c_condb rfl (fun hc2 => ?_) (fun hc2 => ?_)
    · skip
      refine c_region ?_
      refine l_move rfl rfl rfl ?_
      refine l_assign rfl rfl rfl ?_
      refine l_nil ?_
      refine e_blk ?_
      refine e_againk (i := (lo, hi)) (lo + (hi - lo) / 2, hi) ?_ ?_ (.cons rfl (.cons rfl (.cons rfl .nil))) ?_
      · first | omega | (simp; omega)
      · rw [← hN] at hc2
        have hle := cmpI_le.1 hc2
        exact ⟨hw4, by omega, by omega, by omega, hle, by omega⟩
      · exact (.cons rfl (by first | rfl | (refine congrArg (Value.int _) ?_; omega)) (.cons rfl (by first | rfl | (refine congrArg (Value.int _) ?_; omega)) .nil))
    · skip
      refine c_region ?_
      refine l_move rfl rfl rfl ?_
      refine l_assign rfl rfl rfl ?_
      refine l_nil ?_
      refine e_blk ?_
      refine e_againk (i := (lo, hi)) (lo, lo + (hi - lo) / 2) ?_ ?_ (.cons rfl (.cons rfl (.cons rfl .nil))) ?_
      · first | omega | (simp; omega)
      · rw [← hN] at hc2
        have hle : ¬ fv d.H (lo + (hi - lo) / 2) * dd ≤ N := fun h => hc2 (cmpI_le.2 h)
        exact ⟨hw4, by omega, by omega, by omega, hlo, by omega⟩
      · exact (.cons rfl (by first | rfl | (refine congrArg (Value.int _) ?_; omega)) (.cons rfl (by first | rfl | (refine congrArg (Value.int _) ?_; omega)) .nil))
  · skip
    refine c_exit ?_
    refine e_then_exit ?_
    refine e_then_exit ?_
    refine e_blk_exit ?_
    refine e_then ?_
    refine c_keep [0, 1, 2, 9] (.cons rfl (.cons rfl (.cons rfl (.cons rfl .nil)))) ?_
    refine c_seq ?_
    refine c_seq ?_
    refine c_region ?_
    have h2 : lo = d.I - 1 ∨ N < fv d.H (lo + 1) * dd := by
      rcases hcs with h | h
      · exact .inl h.2
      · right; rw [show lo + 1 = hi by omega]; exact h.2
    have hsp := spl_fin hk (b := lo) (by omega)
    have hfs := fv_spl d (b := lo) (by omega)
    have hM64 : 0 ≤ 2 * splM d lo + 1 ∧ 2 * splM d lo + 1 ≤ 18446744073709551615 := by omega
    refine l_move rfl rfl rfl ?_
    refine l_move rfl rfl rfl ?_
    refine l_move rfl rfl rfl ?_
    refine l_move rfl rfl rfl ?_
    refine l_call rfl rfl Try.func83 rfl rfl (.cons rfl (.cons rfl (.cons rfl (.cons rfl .nil)))) (at3 k d hk (lo) (by omega) vn vd ln ld n dd hRn hRd hLn hLd w3 (hw3.iarg hn) (hw3.iarg hd)) ?_
    rintro _ w5 ⟨rfl, hG⟩
    have hw5 := hG _ _ _ _ hw3
    try clear hG hw3
    simp only [List.cons_append, List.nil_append] at hw5
    refine l_eql rfl rfl rfl rfl ?_
    refine l_nil ?_
    refine e_then ?_
    refine c_keep [0, 1, 2, 9, 47] (.cons rfl (.cons rfl (.cons rfl (.cons rfl (.cons rfl .nil))))) ?_
    first | refine c_cond rfl (fun hc3 => ?_) (fun hc3 => ?_) | refine c_condb rfl (fun hc3 => ?_) (fun hc3 => ?_)
    · skip
      refine c_seq ?_
      refine c_region ?_
      refine l_move rfl rfl rfl ?_
      refine l_assign rfl rfl rfl ?_
      refine l_assign rfl rfl rfl ?_
      refine l_assign rfl rfl rfl ?_
      refine l_nil ?_
      refine e_then ?_
      refine c_keep [6, 7, 8] (.cons rfl (.cons rfl (.cons rfl .nil))) ?_
      refine c_ret ?_
      refine e_then_ret ?_
      refine e_doneN Try.results65 (.tmp rfl (.tmp rfl (.tmp rfl .nil))) rfl ?_
      refine ⟨_, rfl, ?_⟩
      refine ⟨(lo, true, 0), rfl, ?_, hw5.grows⟩
      rw [← hN] at hc3 ⊢
      exact near_exact hdp ⟨hl0, by omega⟩ (cmpI_0.1 hc3)
    · skip
      refine c_skip ?_
      refine e_then ?_
      refine c_keep [0, 1, 2, 9] (.cons rfl (.cons rfl (.cons rfl (.cons rfl .nil)))) ?_
      refine c_seq ?_
      refine c_region ?_
      refine l_move rfl rfl rfl ?_
      refine l_move rfl rfl rfl ?_
      refine l_call rfl rfl Try.func64 rfl rfl (.cons rfl (.cons rfl .nil)) (split3f hk (b := lo) (by omega) w5) ?_
      rintro _ w6 ⟨rfl, hG⟩
      have hw6 := hG _ _ _ _ hw5
      try clear hG hw5
      simp only [List.cons_append, List.nil_append] at hw6
      refine l_move rfl rfl rfl ?_
      refine l_extract rfl rfl rfl rfl ?_
      refine l_extract rfl rfl rfl rfl ?_
      refine l_alloc hw6 ta27 rfl rfl (fun b11_6 w7 hw7 => ?_)
      try clear hw6
      refine l_store_blks hw7 .head (.zero (.zero (.zero .nil))) rfl tz27 rfl rfl (by first | (simp [Value.oneCell']; done) | (intro u hu; simp only [List.mem_cons, List.not_mem_nil, or_false] at hu; rcases hu with rfl | rfl | rfl <;> first | rfl | assumption)) (fun w8 hw8 => ?_)
      try clear hw7
      refine l_assign rfl rfl rfl ?_
      refine l_nil ?_
      refine e_then ?_
      refine c_keep [0, 1, 2, 9, 12] (.cons rfl (.cons rfl (.cons rfl (.cons rfl (.cons rfl .nil))))) ?_
      refine c_seq ?_
      have hw9 := hw8.drewn
      try clear hw8
      refine c_any (n := 13) [false, false, false, false, false, false, false, false, false, false, false, false, false] (fun wS => (As.blk b11_6 27 [.bool false, .int .u64 (splM d lo), .int .i64 (splE d lo)]).ok wS) (by kernel_rfl) rfl rfl ?_
      apply a_take (L' := [true, false, false, false, false, false, false, false, false, false, false, false, false]) 0 rfl (by kernel_rfl) (by kernel_rfl) (by kernel_rfl) rfl rfl rfl rfl rfl (hw9.ok mem0)
      · intro wS sS
        refine l_field fo27_1 rfl rfl rfl ?_
        refine l_nil ?_
        exact e_got rfl
      apply a_take (L' := [true, true, false, false, false, false, false, false, false, false, false, false, false]) 1 rfl (by kernel_rfl) (by kernel_rfl) (by kernel_rfl) rfl rfl rfl rfl rfl (hw9.ok mem0)
      · intro wS sS
        refine l_load_blk (blk_st sS) mem0 rfl rfl Try.underlying22 rfl rfl rfl ?_
        refine l_nil ?_
        exact e_got rfl
      apply a_take (L' := [true, true, true, false, false, false, false, false, false, false, false, false, false]) 2 rfl (by kernel_rfl) (by kernel_rfl) (by kernel_rfl) rfl rfl rfl rfl rfl (hw9.ok mem0)
      · intro wS sS
        refine l_mul rfl rfl rfl rfl (w_u64 (by omega)) ?_
        refine l_nil ?_
        exact e_got rfl
      apply a_take (L' := [true, true, true, true, false, false, false, false, false, false, false, false, false]) 3 rfl (by kernel_rfl) (by kernel_rfl) (by kernel_rfl) rfl rfl rfl rfl rfl (hw9.ok mem0)
      · intro wS sS
        refine l_add rfl rfl rfl rfl (w_u64 (by omega)) ?_
        refine l_nil ?_
        exact e_got rfl
      apply a_take (L' := [true, true, true, true, false, false, true, false, false, false, false, false, false]) 6 rfl (by kernel_rfl) (by kernel_rfl) (by kernel_rfl) rfl rfl rfl rfl rfl (hw9.ok mem0)
      · intro wS sS
        refine l_field fo27_2 rfl rfl rfl ?_
        refine l_nil ?_
        exact e_got rfl
      apply a_take (L' := [true, true, true, true, false, false, true, true, false, false, false, false, false]) 7 rfl (by kernel_rfl) (by kernel_rfl) (by kernel_rfl) rfl rfl rfl rfl rfl (hw9.ok mem0)
      · intro wS sS
        refine l_load_blk (blk_st sS) mem0 rfl rfl Try.underlying3 rfl rfl rfl ?_
        refine l_nil ?_
        exact e_got rfl
      apply a_take (L' := [true, true, true, true, false, false, true, true, true, false, false, false, false]) 8 rfl (by kernel_rfl) (by kernel_rfl) (by kernel_rfl) rfl rfl rfl rfl rfl (hw9.ok mem0)
      · intro wS sS
        refine l_sub rfl rfl rfl rfl (w_i64 (by omega)) ?_
        refine l_nil ?_
        exact e_got rfl
      apply a_take (L' := [true, true, true, true, false, false, true, true, true, true, false, false, false]) 9 rfl (by kernel_rfl) (by kernel_rfl) (by kernel_rfl) rfl rfl rfl rfl rfl (hw9.ok mem0)
      · intro wS sS
        refine l_move rfl rfl rfl ?_
        refine l_nil ?_
        exact e_got rfl
      apply a_take (L' := [true, true, true, true, false, false, true, true, true, true, true, false, false]) 10 rfl (by kernel_rfl) (by kernel_rfl) (by kernel_rfl) rfl rfl rfl rfl rfl (hw9.ok mem0)
      · intro wS sS
        refine l_move rfl rfl rfl ?_
        refine l_nil ?_
        exact e_got rfl
      refine a_one (L' := [true, true, true, true, true, false, true, true, true, true, true, false, false]) 4 (by kernel_rfl) rfl rfl ?_
      refine v_lit hw9 rfl rfl Try.underlying66 ti22 rfl (.cons rfl (by first | rfl | assumption) .nil) rfl rfl rfl (fun b12_4 w10 hw10 => ?_)
      try clear hw9
      refine l_nil ?_
      refine e_any (hw10.ok mem1) ?_
      refine a_one (L' := [true, true, true, true, true, true, true, true, true, true, true, false, false]) 5 (by kernel_rfl) rfl rfl ?_
      refine l_call rfl rfl Try.func23 rfl rfl (.cons rfl .nil) (numR _ [2 * splM d lo + 1] (U.one hM64) (by simp) w10 (hw10.ibl mem0)) ?_
      rintro vm w11 ⟨_, lm, rfl, hRm, hG⟩
      have hw11 := hG _ _ _ _ hw10
      try clear hG hw10
      simp only [List.cons_append, List.nil_append] at hw11
      have hRm2 : R16 lm (2 * splM d lo + 1) := by have := hRm; rw [show Ma.vb 18446744073709551616 [2 * splM d lo + 1] = 2 * splM d lo + 1 from nv_one _] at this; exact this
      refine l_nil ?_
      refine e_any (hw11.ok mem2) ?_
      refine a_one (L' := [true, true, true, true, true, true, true, true, true, true, true, true, false]) 11 (by kernel_rfl) rfl rfl ?_
      refine l_call rfl rfl Try.func84 rfl rfl (.cons rfl (.cons rfl (.cons rfl (.cons rfl .nil)))) (against3 vm lm (2 * splM d lo + 1) (splE d lo - 1) hRm2 (by have := R16.len_num (U.one hM64) hRm; simp at this; omega) (by omega) vn vd ln ld n dd hRn hRd hLn hLd w11 (hw11.io mem0) (hw11.iarg hn) (hw11.iarg hd)) ?_
      rintro _ w12 ⟨rfl, hG⟩
      have hw12 := hG _ _ _ _ hw11
      try clear hG hw11
      simp only [List.cons_append, List.nil_append] at hw12
      refine l_nil ?_
      refine e_any (hw12.ok mem2) ?_
      apply a_take (L' := [true, true, true, true, true, true, true, true, true, true, true, true, true]) 12 rfl (by kernel_rfl) (by kernel_rfl) (by kernel_rfl) rfl rfl rfl rfl rfl (hw12.ok mem2)
      · intro wS sS
        refine l_assign rfl rfl rfl ?_
        refine l_nil ?_
        exact e_got rfl
      refine a_done (by kernel_rfl) ?_
      refine e_then ?_
      refine c_keep [0, 9, 14] (.cons rfl (.cons rfl (.cons rfl .nil))) ?_
      refine c_seq ?_
      refine c_seq ?_
      refine c_region ?_
      refine l_move rfl rfl rfl ?_
      refine l_lss rfl rfl rfl rfl ?_
      refine l_move rfl rfl rfl ?_
      apply l_or 7 [0, 9] rfl rfl (.cons rfl (.cons rfl (.cons rfl .nil))) rfl rfl (fun _ => rfl) rfl rfl rfl
      · intro hg13_3
        refine l_move rfl rfl rfl ?_
        refine l_eql rfl rfl rfl rfl ?_
        refine l_move rfl rfl rfl ?_
        apply l_and 3 [0, 9, 69] rfl rfl (.cons rfl (.cons rfl (.cons rfl (.cons rfl .nil)))) rfl rfl (fun _ => rfl) rfl rfl rfl
        · intro hg13_6
          refine l_move rfl rfl rfl ?_
          refine l_rem rfl rfl rfl rfl (by omega) (r_pos (by omega)) ?_
          refine l_eql rfl rfl rfl rfl ?_
          refine l_nil ?_
          exact e_stays rfl (.cons rfl (congrArg Value.bool (decide_eq_true hg13_6).symm) (.cons rfl rfl (.cons rfl rfl (.cons rfl rfl .nil))))
        refine l_nil ?_
        exact e_stays rfl (.cons rfl (congrArg Value.bool (decide_eq_false hg13_3).symm) (.cons rfl rfl (.cons rfl rfl .nil)))
      refine l_nil ?_
      refine e_then ?_
      refine c_keep [0, 9, 77] (.cons rfl (.cons rfl (.cons rfl .nil))) ?_
      first | refine c_cond rfl (fun hc4 => ?_) (fun hc4 => ?_) | refine c_condb rfl (fun hc4 => ?_) (fun hc4 => ?_)
      · skip
        refine c_seq ?_
        refine c_seq ?_
        refine c_region ?_
        refine l_move rfl rfl rfl ?_
        refine l_move rfl rfl rfl ?_
        refine l_callp rfl rfl Try.func49 rfl rfl (.cons rfl .nil) (greatest3 k d hk w12) ?_
        refine l_eql rfl rfl rfl rfl ?_
        refine l_nil ?_
        refine e_then ?_
        refine c_keep [9, 81] (.cons rfl (.cons rfl .nil)) ?_
        first | refine c_cond rfl (fun hc5 => ?_) (fun hc5 => ?_) | refine c_condb rfl (fun hc5 => ?_) (fun hc5 => ?_)
        · skip
          refine c_seq ?_
          refine c_region ?_
          refine l_assign rfl rfl rfl ?_
          refine l_assign rfl rfl rfl ?_
          refine l_assign rfl rfl rfl ?_
          refine l_nil ?_
          refine e_then ?_
          refine c_keep [6, 7, 8] (.cons rfl (.cons rfl (.cons rfl .nil))) ?_
          refine c_ret ?_
          refine e_then_ret ?_
          refine e_then_ret ?_
          refine e_doneN Try.results65 (.tmp rfl (.tmp rfl (.tmp rfl .nil))) rfl ?_
          refine ⟨_, rfl, ?_⟩
          have hw13 := St.del (.tail (.tail .head)) hw12
          try clear hw12
          have hw14 := St.del (.tail .head) hw13
          try clear hw13
          have hw15 := St.del .head hw14
          try clear hw14
          have hhalf : (if 0 ≤ splE d lo - 1 then cmpI ((2 * splM d lo + 1) * dd * 2 ^ (splE d lo - 1).toNat) n else cmpI ((2 * splM d lo + 1) * dd) (n * 2 ^ (0 - (splE d lo - 1)).toNat)) = cmpI ((fv d.H lo + fv d.H (lo + 1)) * dd) (2 * N) := by
            rw [against_eq (l := d.l + 1) (by omega), hfs.2.2.2.2.1, hfs.2.2.2.2.2, ← Int.add_mul, show splM d lo + (splM d lo + 1) = 2 * splM d lo + 1 by omega, show (splE d lo - 1 + ((d.l + 1 : Nat) : Int)).toNat = (splE d lo + d.l).toNat by omega, hN, Int.pow_succ, ← Int.mul_assoc, Int.mul_comm (n * 2 ^ d.l) 2]
          rw [hhalf] at hc4
          have hu : upR d.H N dd lo := by
            unfold upR
            rcases hc4 with h | h
            · exact .inl (cmpI_lt0.1 h)
            · exact .inr ⟨cmpI_0.1 h.1, h.2⟩
          refine ⟨(0, false, 34), rfl, ?_, hw15.grows⟩
          have := near_up hdp ⟨hl0, by omega⟩ hlo h2 hu
          rw [if_pos hc5] at this
          rw [← hN]
          exact this
        · skip
          refine c_skip ?_
          refine e_then ?_
          refine c_keep [9] (.cons rfl .nil) ?_
          refine c_seq ?_
          refine c_region ?_
          refine l_move rfl rfl rfl ?_
          refine l_add rfl rfl rfl rfl (w_u64 (by omega)) ?_
          refine l_assign rfl rfl rfl ?_
          refine l_assign rfl rfl rfl ?_
          refine l_assign rfl rfl rfl ?_
          refine l_nil ?_
          refine e_then ?_
          refine c_keep [6, 7, 8] (.cons rfl (.cons rfl (.cons rfl .nil))) ?_
          refine c_ret ?_
          refine e_then_ret ?_
          refine e_doneN Try.results65 (.tmp rfl (.tmp rfl (.tmp rfl .nil))) rfl ?_
          refine ⟨_, rfl, ?_⟩
          have hw16 := St.del (.tail (.tail .head)) hw12
          try clear hw12
          have hw17 := St.del (.tail .head) hw16
          try clear hw16
          have hw18 := St.del .head hw17
          try clear hw17
          have hhalf : (if 0 ≤ splE d lo - 1 then cmpI ((2 * splM d lo + 1) * dd * 2 ^ (splE d lo - 1).toNat) n else cmpI ((2 * splM d lo + 1) * dd) (n * 2 ^ (0 - (splE d lo - 1)).toNat)) = cmpI ((fv d.H lo + fv d.H (lo + 1)) * dd) (2 * N) := by
            rw [against_eq (l := d.l + 1) (by omega), hfs.2.2.2.2.1, hfs.2.2.2.2.2, ← Int.add_mul, show splM d lo + (splM d lo + 1) = 2 * splM d lo + 1 by omega, show (splE d lo - 1 + ((d.l + 1 : Nat) : Int)).toNat = (splE d lo + d.l).toNat by omega, hN, Int.pow_succ, ← Int.mul_assoc, Int.mul_comm (n * 2 ^ d.l) 2]
          rw [hhalf] at hc4
          have hu : upR d.H N dd lo := by
            unfold upR
            rcases hc4 with h | h
            · exact .inl (cmpI_lt0.1 h)
            · exact .inr ⟨cmpI_0.1 h.1, h.2⟩
          refine ⟨(lo + 1, false, 0), rfl, ?_, hw18.grows⟩
          have := near_up hdp ⟨hl0, by omega⟩ hlo h2 hu
          rw [if_neg hc5] at this
          rw [← hN]
          exact this
      · skip
        refine c_skip ?_
        refine e_then ?_
        refine c_keep [9] (.cons rfl .nil) ?_
        refine c_seq ?_
        refine c_region ?_
        refine l_move rfl rfl rfl ?_
        refine l_assign rfl rfl rfl ?_
        refine l_assign rfl rfl rfl ?_
        refine l_assign rfl rfl rfl ?_
        refine l_nil ?_
        refine e_then ?_
        refine c_keep [6, 7, 8] (.cons rfl (.cons rfl (.cons rfl .nil))) ?_
        refine c_ret ?_
        refine e_doneN Try.results65 (.tmp rfl (.tmp rfl (.tmp rfl .nil))) rfl ?_
        refine ⟨_, rfl, ?_⟩
        have hw19 := St.del (.tail (.tail .head)) hw12
        try clear hw12
        have hw20 := St.del (.tail .head) hw19
        try clear hw19
        have hw21 := St.del .head hw20
        try clear hw20
        have hhalf : (if 0 ≤ splE d lo - 1 then cmpI ((2 * splM d lo + 1) * dd * 2 ^ (splE d lo - 1).toNat) n else cmpI ((2 * splM d lo + 1) * dd) (n * 2 ^ (0 - (splE d lo - 1)).toNat)) = cmpI ((fv d.H lo + fv d.H (lo + 1)) * dd) (2 * N) := by
          rw [against_eq (l := d.l + 1) (by omega), hfs.2.2.2.2.1, hfs.2.2.2.2.2, ← Int.add_mul, show splM d lo + (splM d lo + 1) = 2 * splM d lo + 1 by omega, show (splE d lo - 1 + ((d.l + 1 : Nat) : Int)).toNat = (splE d lo + d.l).toNat by omega, hN, Int.pow_succ, ← Int.mul_assoc, Int.mul_comm (n * 2 ^ d.l) 2]
        rw [hhalf] at hc4
        refine ⟨(lo, false, 0), rfl, ?_, hw21.grows⟩
        have hne : ¬ fv d.H lo * dd = N := fun h => hc3 (by rw [← hN]; exact cmpI_0.2 h)
        have hu : ¬ upR d.H N dd lo := fun h => hc4 (by unfold upR at h; rcases h with h | h; exact .inl (cmpI_lt0.2 h); exact .inr ⟨cmpI_0.2 h.1, h.2⟩)
        rw [← hN]
        exact near_down hdp ⟨hl0, by omega⟩ hlo h2 hne hu

theorem R16.one1 : R16 [1] 1 := ⟨fun x hx => by rw [List.mem_singleton.1 hx]; omega, ⟨fun _ => by omega, trivial⟩, by decide⟩

end Go.Proofs.Ytmcbdgpcbcldjaa.W
