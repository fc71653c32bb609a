/- walks of short's Reads, Digits, Count -/
import Derived.Test.YtmcbdgpcbcldjaaHa
set_option linter.unusedVariables false
set_option linter.unusedSimpArgs false
set_option maxRecDepth 10000
namespace Go.Proofs.Ytmcbdgpcbcldjaa.W
open Go.Vc Go.RowKit
theorem rdQ_iff {d : Kd} {b m e : Int} (hb : 0 < b ∧ b < d.I) (hm : 0 ≤ m ∧ m ≤ 18446744073709551615) : rdQ d b m e ↔ e ≤ 400 ∧ -400 ≤ e ∧ rdP d b m e := by
  unfold rdQ
  constructor
  · rintro ⟨h1, h2, h3, h4⟩
    refine ⟨h2, ?_, h4⟩
    rcases Int.lt_or_le e (-400) with h | h
    · exact absurd h4 (rd_tiny hb hm (by omega))
    · exact h
  · rintro ⟨h1, h2, h3⟩
    exact ⟨fun h => rdP_zero hb.1 (h ▸ h3), h1, by omega, h3⟩
/-- how often 10^e goes into a fraction -/
def fQ (x y e : Int) : Int := fN x e / fD y e
def hit (d : Kd) (b x y e : Int) : Prop := rdQ d b (fQ x y e) e ∨ rdQ d b (fQ x y e + 1) e
instance (d : Kd) (b x y e : Int) : Decidable (hit d b x y e) := by unfold hit; infer_instance
def upp (d : Kd) (b x y e : Int) : Prop := ¬ rdQ d b (fQ x y e) e ∨ (rdQ d b (fQ x y e + 1) e ∧ (0 < hfS x y e ∨ (hfS x y e = 0 ∧ fQ x y e % 2 = 1)))
instance (d : Kd) (b x y e : Int) : Decidable (upp d b x y e) := by unfold upp; infer_instance
def pickM (d : Kd) (b x y e : Int) : Int := if upp d b x y e then fQ x y e + 1 else fQ x y e
def StripR (m e m' e' : Int) : Prop := m' % 10 ≠ 0 ∧ ∃ j : Nat, m = m' * 10 ^ j ∧ e' = e + j
theorem StripR.unique {m e m1 e1 m2 e2 : Int} (h : StripR m e m1 e1) (k : StripR m e m2 e2) : m1 = m2 ∧ e1 = e2 := by
  have key : ∀ {m1 e1 m2 e2 : Int} {i j : Nat}, m1 % 10 ≠ 0 → m = m1 * 10 ^ i → m = m2 * 10 ^ j → ¬ i < j := fun {m1 e1 m2 e2 i j} h1 h2 h3 h4 => by
    obtain ⟨u, hu⟩ : ∃ u, j = i + (u + 1) := ⟨j - i - 1, by omega⟩
    rw [h2, hu, Int.pow_add, Int.mul_comm (10 ^ i), ← Int.mul_assoc] at h3
    have h5 := Int.eq_of_mul_eq_mul_right (show (10 : Int) ^ i ≠ 0 by have := p10 i; omega) h3
    rw [Int.pow_succ, ← Int.mul_assoc] at h5
    omega
  obtain ⟨h1, i, h2, h3⟩ := h
  obtain ⟨k1, j, k2, k3⟩ := k
  rcases Nat.lt_trichotomy i j with hl | hl | hl
  · exact absurd hl (key (e1 := 0) (e2 := 0) h1 h2 k2)
  · subst hl
    rw [h2] at k2
    exact ⟨Int.eq_of_mul_eq_mul_right (show (10 : Int) ^ i ≠ 0 by have := p10 i; omega) k2, by omega⟩
  · exact absurd hl (key (e1 := 0) (e2 := 0) k1 k2 h2)
theorem StripR.go {m e : Int} {n : Nat} {m' : Int} (h : m = m' * 10 ^ n) (h0 : ¬ m' % 10 = 0) : StripR m e m' (e + n) := ⟨h0, n, h, rfl⟩
/-- the place at which the digits end -/
def EndR (d : Kd) (b x y t f : Int) : Prop := TopR x y t ∧ f ≤ t ∧ (∀ g, f < g → g ≤ t → ¬ hit d b x y g) ∧ hit d b x y f
def DigR (d : Kd) (b x y m e : Int) : Prop := ∃ t f, EndR d b x y t f ∧ StripR (pickM d b x y f) f m e
theorem EndR.unique {d : Kd} {b x y t f u g : Int} (hy : 0 < y) (h : EndR d b x y t f) (k : EndR d b x y u g) : t = u ∧ f = g := by
  have e := h.1.unique hy k.1
  subst e
  refine ⟨rfl, ?_⟩
  rcases Int.lt_trichotomy f g with hl | hl | hl
  · exact absurd k.2.2.2 (h.2.2.1 g hl k.2.1)
  · exact hl
  · exact absurd h.2.2.2 (k.2.2.1 f hl h.2.1)
theorem DigR.unique {d : Kd} {b x y m e m' e' : Int} (hy : 0 < y) (h : DigR d b x y m e) (k : DigR d b x y m' e') : m = m' ∧ e = e' := by
  obtain ⟨t, f, h1, h2⟩ := h
  obtain ⟨u, g, k1, k2⟩ := k
  obtain ⟨rfl, rfl⟩ := h1.unique hy k1
  exact h2.unique k2
/-- the numbers at one place -/
theorem fQ_bd {x y t e : Int} (hx : 0 ≤ x) (hy : 0 < y) (h : TopR x y t) (n : Nat) (hn : t + 1 - e ≤ n) : 0 ≤ fQ x y e ∧ fQ x y e < 10 ^ n := by
  have hD := fD_pos hy e
  refine ⟨Int.ediv_nonneg (fN_nonneg hx e) (Int.le_of_lt hD), ?_⟩
  rcases Int.lt_or_le t e with h1 | h1
  · have h2 : fN x e < fD y e := by
      rcases Int.lt_or_le (fN x e) (fD y e) with h3 | h3
      · exact h3
      · have := h.ge hy h3
        omega
    have h3 := p10 n
    rw [fQ, Int.ediv_eq_zero_of_lt (fN_nonneg hx e) h2]
    exact h3
  · have h2 := digs_lt hy h (t + 1 - e).toNat
    rw [show t + 1 - ((t + 1 - e).toNat : Int) = e from by omega] at h2
    exact Int.lt_of_lt_of_le h2 (Ma.pow_mono (by omega) (by omega))
/-- at the eighteenth place the digits end, if they have not ended before -/
theorem hit17 {d : Kd} {b x y t : Int} (hb : 0 < b ∧ b < d.I) (h : Flt d b x y) (ht : TopR x y t) (hl : -400 ≤ t ∧ t ≤ 400) : hit d b x y (t - 17) := by
  have h1 := digs_ge h.hy ht 17
  rw [show ((17 : Nat) : Int) = 17 from rfl] at h1
  have h3 : (10 : Int) ^ 17 = 100000000000000000 := by decide
  rw [h3] at h1
  exact .inl ⟨by unfold fQ; omega, by omega, by omega, rd_low hb (Int.le_of_lt h.hx) h.hy h.hv h1⟩
theorem pick_pos {d : Kd} {b x y t e : Int} (hx : 0 ≤ x) (hy : 0 < y) (ht : TopR x y t) (h : hit d b x y e) : 0 < pickM d b x y e := by
  have h0 := (fQ_bd (e := e) hx hy ht (t + 1 - e).toNat (by omega)).1
  unfold pickM
  split
  · omega
  · rename_i h1
    unfold upp at h1
    have h2 : rdQ d b (fQ x y e) e := Classical.not_not.1 (fun h3 => h1 (.inl h3))
    have := h2.1
    omega
theorem pick_read {d : Kd} {b x y e : Int} (h : hit d b x y e) : rdQ d b (pickM d b x y e) e := by
  unfold pickM
  split
  · rename_i h1
    rcases h1 with h1 | h1
    · exact h.resolve_left h1
    · exact h1.1
  · rename_i h1
    exact Classical.not_not.1 (fun h3 => h1 (.inl h3))
/-- Digits of a float's bits -/
def DigE (k b m e er : Int) : Prop := er = ofE k b ∧ (er ≠ 0 → m = 0 ∧ e = 0) ∧ (er = 0 → ∃ d, kd k = some d ∧ b < 2 * d.S ∧ 0 < b % d.S ∧ b % d.S < d.I ∧ DigR d (b % d.S) (fX d (b % d.S)) (fY d (b % d.S)) m e)
theorem DigE.unique {k b m e er m' e' er' : Int} (h : DigE k b m e er) (g : DigE k b m' e' er') : m = m' ∧ e = e' ∧ er = er' := by
  have he : er = er' := h.1.trans g.1.symm
  subst he
  by_cases h0 : er = 0
  · obtain ⟨d, hd, _, _, _, h1⟩ := h.2.2 h0
    obtain ⟨d', hd', _, _, _, g1⟩ := g.2.2 h0
    rw [hd] at hd'
    cases hd'
    exact ⟨(h1.unique (fY_pos _ _) g1).1, (h1.unique (fY_pos _ _) g1).2, rfl⟩
  · have h1 := h.2.1 h0
    have g1 := g.2.1 h0
    exact ⟨by omega, by omega, rfl⟩
/-- how large they are -/
theorem DigR.bd {d : Kd} {b m e : Int} (hb : 0 < b ∧ b < d.I) (h : DigR d b (fX d b) (fY d b) m e) : 0 < m ∧ m ≤ 1000000000000000000 ∧ -420 ≤ e ∧ e ≤ 380 := by
  obtain ⟨t, f, ⟨h1, h2, h3, h4⟩, h5, j, h6, h7⟩ := h
  have hf := flt_of hb
  obtain ⟨t', ht', h8, h9, h10, _⟩ := flt_top hf
  have e := h1.unique hf.hy ht'
  subst e
  have h11 : t - 17 ≤ f := by
    rcases Int.lt_or_le f (t - 17) with h | h
    · exact absurd (hit17 hb hf h1 (by omega)) (h3 _ h (by omega))
    · exact h
  have hp := pick_pos (Int.le_of_lt hf.hx) hf.hy h1 h4
  have hq := fQ_bd (Int.le_of_lt hf.hx) hf.hy h1 18 (e := f) (by omega)
  have h18 : (10 : Int) ^ 18 = 1000000000000000000 := by decide
  rw [h18] at hq
  have hq2 : pickM d b (fX d b) (fY d b) f ≤ 1000000000000000000 := by
    unfold pickM
    split <;> omega
  rw [h6] at hp hq2
  have hj := p10 j
  have hm : 0 < m := by
    rcases Int.lt_or_le 0 m with h | h
    · exact h
    · have := Int.mul_le_mul_of_nonneg_right h (Int.le_of_lt hj)
      omega
  have hm2 : m * 1 ≤ m * 10 ^ j := Int.mul_le_mul_of_nonneg_left (by omega) (Int.le_of_lt hm)
  have hj2 : 1 * 10 ^ j ≤ m * 10 ^ j := Int.mul_le_mul_of_nonneg_right (by omega) (Int.le_of_lt hj)
  have hj3 : j ≤ 18 := by
    rcases Nat.lt_or_ge 18 j with h | h
    · have := Ma.pow_mono (show (1 : Int) ≤ 10 by omega) (show 19 ≤ j by omega)
      have h19 : (10 : Int) ^ 19 = 10000000000000000000 := by decide
      omega
    · exact h
  exact ⟨hm, by omega, by omega, by omega⟩
theorem DigE.bd {k b m e er : Int} (h : DigE k b m e er) : 0 ≤ m ∧ m ≤ 1000000000000000000 ∧ -420 ≤ e ∧ e ≤ 380 ∧ (er = 0 → 0 < m) := by
  by_cases h0 : er = 0
  · obtain ⟨d, hd, _, h1, h2, h3⟩ := h.2.2 h0
    have := h3.bd ⟨h1, h2⟩
    omega
  · have := h.2.1 h0
    omega
/-- Reads of a float's bits -/
def rdsF (k b m e : Int) : Bool × Int := if ofE k b = 0 then (match kd k with | some d => decide (rdQ d (b % d.S) m e) | none => false, 0) else (false, ofE k b)
theorem rdsF_bad {k b m e : Int} (h : ¬ ofE k b = 0) : rdsF k b m e = (false, ofE k b) := if_neg h
theorem rdsF_ok {k b m e : Int} {d : Kd} (h : ofE k b = 0) (hk : kd k = some d) : rdsF k b m e = (decide (rdQ d (b % d.S) m e), 0) := by
  unfold rdsF
  rw [if_pos h, hk]
theorem pow10_le {m : Int} {j : Nat} (h : 0 < m) (h2 : m * 10 ^ j ≤ 1000000000000000000) : j ≤ 18 := by
  rcases Nat.lt_or_ge 18 j with h1 | h1
  · exfalso
    have h3 := Ma.pow_mono (show (1 : Int) ≤ 10 by omega) (show 19 ≤ j by omega)
    have h19 : (10 : Int) ^ 19 = 10000000000000000000 := by decide
    have h4 : 1 * 10 ^ j ≤ m * 10 ^ j := Int.mul_le_mul_of_nonneg_right (by omega) (Int.le_of_lt (p10 j))
    omega
  · exact h1
theorem pow10_next {m0 m : Int} {j : Nat} (h : m0 = m * 10 ^ j) (h10 : m % 10 = 0) : m0 = m / 10 * 10 ^ (j + 1) := by
  rw [h, Int.pow_succ, Int.mul_comm _ 10, ← Int.mul_assoc, show m / 10 * 10 = m from by omega]
theorem pick_le {d : Kd} {b x y e : Int} (h : fQ x y e < 1000000000000000000) : pickM d b x y e ≤ 1000000000000000000 := by
  unfold pickM
  split <;> omega
theorem no_next {d : Kd} {b x y t f : Int} (hb : 0 < b ∧ b < d.I) (h : Flt d b x y) (ht : TopR x y t) (hl : -400 ≤ t ∧ t ≤ 400) (hf : t - 17 ≤ f) (hno : ∀ g, f < g → g ≤ t → ¬ hit d b x y g) (hm : ¬ hit d b x y f) : t - 17 ≤ f - 1 ∧ ∀ g, f - 1 < g → g ≤ t → ¬ hit d b x y g := by
  refine ⟨?_, fun g h1 h2 => ?_⟩
  · rcases Int.lt_or_eq_of_le hf with h1 | h1
    · omega
    · exact absurd (hit17 hb h ht hl) (by rw [h1]; exact hm)
  · rcases Int.lt_or_eq_of_le (show f ≤ g by omega) with h3 | h3
    · exact hno g h3 h2
    · rw [← h3]; exact hm

theorem ReadsF (k b : Int) (hb : 0 ≤ b ∧ b ≤ 18446744073709551615) (man e : Int) (hm : 0 ≤ man ∧ man ≤ 18446744073709551615) (he : -9223372036854775808 ≤ e ∧ e ≤ 9223372036854775807) (w : World) :
    CallsV P 13 [.int .i64 k, .int .u64 b, .int .u64 man, .int .i64 e] w fun r w' => r = .tuple #[.bool (rdsF k b man e).1, .int .i64 (rdsF k b man e).2] ∧ Grow w w' [] := by
  refine enterW Try.func13 rfl Try.ntmps13 rfl ?_
  have hw0 := St.start w
  refine c_seq ?_
  refine c_region ?_
  refine l_assign rfl rfl rfl ?_
  refine l_assign rfl rfl rfl ?_
  refine l_nil ?_
  refine e_then ?_
  refine c_keep [0, 1, 2, 3] (.cons rfl (.cons rfl (.cons rfl (.cons rfl .nil)))) ?_
  refine c_seq ?_
  refine c_region ?_
  refine l_move rfl rfl rfl ?_
  refine l_move rfl rfl rfl ?_
  refine l_call rfl rfl Try.func32 rfl rfl (.cons rfl (.cons rfl .nil)) (ofF k b hb w) ?_
  rintro _ w1 ⟨vn, ln, vd, ld, kk, bb, er, rfl, her, hok, hG⟩
  have hw1 := hG _ _ _ _ hw0
  try clear hG hw0
  simp only [List.cons_append, List.nil_append] at hw1
  have hnn := slice_one (hw1.io mem0)
  have hnd := slice_one (hw1.io mem1)
  refine l_move rfl rfl rfl ?_
  refine l_extract rfl rfl rfl rfl ?_
  refine l_extract rfl rfl rfl rfl ?_
  refine l_alloc hw1 ta70 rfl rfl (fun b1_6 w2 hw2 => ?_)
  try clear hw1
  refine l_store_blks hw2 .head (.zero (.zero (.zero (.zero .nil)))) rfl tz70 rfl rfl (by first | (simp [Value.oneCell']; done) | (intro u hu; simp only [List.mem_cons, List.not_mem_nil, or_false] at hu; rcases hu with rfl | rfl | rfl | rfl <;> first | rfl | assumption)) (fun w3 hw3 => ?_)
  try clear hw2
  refine l_assign rfl rfl rfl ?_
  refine l_nil ?_
  refine e_then ?_
  refine c_keep [2, 3, 10, 11] (.cons rfl (.cons rfl (.cons rfl (.cons rfl .nil)))) ?_
  refine c_seq ?_
  refine c_seq ?_
  refine c_region ?_
  refine l_move rfl rfl rfl ?_
  refine l_neq rfl rfl rfl rfl ?_
  refine l_nil ?_
  refine e_then ?_
  refine c_keep [2, 3, 10, 11, 19] (.cons rfl (.cons rfl (.cons rfl (.cons rfl (.cons rfl .nil))))) ?_
  first | refine c_cond rfl (fun hc0 => ?_) (fun hc0 => ?_) | refine c_condb rfl (fun hc0 => ?_) (fun hc0 => ?_)
  · skip
    refine c_seq ?_
    refine c_region ?_
    refine l_move rfl rfl rfl ?_
    refine l_assign rfl rfl rfl ?_
    refine l_assign rfl rfl rfl ?_
    refine l_nil ?_
    refine e_then ?_
    refine c_keep [8, 9] (.cons rfl (.cons rfl .nil)) ?_
    refine c_ret ?_
    refine e_then_ret ?_
    refine e_done2 Try.results13 rfl rfl ?_
    refine ⟨_, rfl, ?_⟩
    have hw4 := St.del (.tail (.tail .head)) hw3
    try clear hw3
    have hw5 := St.del (.tail .head) hw4
    try clear hw4
    have hw6 := St.del .head hw5
    try clear hw5
    refine ⟨?_, hw6.grows⟩
    rw [rdsF_bad (by omega), ← her]
    all_goals rfl
  · skip
    have her0 : er = 0 := by omega
    obtain ⟨d, hk, hlt, hlo, hhi, hkk, hbb, hcn, hcd⟩ := hok her0
    refine c_skip ?_
    refine e_then ?_
    refine c_keep [2, 3, 10] (.cons rfl (.cons rfl (.cons rfl .nil))) ?_
    refine c_seq ?_
    refine c_region ?_
    refine l_load_agg hw3 mem0 rfl rfl Try.underlying70 rfl tz70 rfl (.take (.take (.take (.take .nil)))) ?_
    refine l_move rfl rfl rfl ?_
    refine l_move rfl rfl rfl ?_
    refine l_call rfl rfl Try.func35 rfl rfl (.cons rfl (.cons rfl (.cons rfl .nil))) (readsF vn vd ln ld kk d (by rw [hkk]; exact hk) bb man e (by omega) hm w3 (hw3.io mem2) (hw3.io mem1)) ?_
    rintro _ w7 ⟨rfl, hG⟩
    have hw7 := hG _ _ _ _ hw3
    try clear hG hw3
    simp only [List.cons_append, List.nil_append] at hw7
    refine l_assign rfl rfl rfl ?_
    refine l_assign rfl rfl rfl ?_
    refine l_nil ?_
    refine e_then ?_
    refine c_keep [8, 9] (.cons rfl (.cons rfl .nil)) ?_
    refine c_ret ?_
    refine e_done2 Try.results13 rfl rfl ?_
    refine ⟨_, rfl, ?_⟩
    have hw8 := St.del (.tail (.tail .head)) hw7
    try clear hw7
    have hw9 := St.del (.tail .head) hw8
    try clear hw8
    have hw10 := St.del .head hw9
    try clear hw9
    refine ⟨?_, hw10.grows⟩
    rw [rdsF_ok (by omega) hk, hbb]
    all_goals rfl
theorem DigitsF (k b : Int) (hb : 0 ≤ b ∧ b ≤ 18446744073709551615) (w : World) :
    CallsV P 9 [.int .i64 k, .int .u64 b] w fun r w' => ∃ m e er, r = .tuple #[.int .u64 m, .int .i64 e, .int .i64 er] ∧ DigE k b m e er ∧ Grow w w' [] := by
  refine enterW Try.func9 rfl Try.ntmps9 rfl ?_
  have hw0 := St.start w
  refine c_seq ?_
  refine c_region ?_
  refine l_assign rfl rfl rfl ?_
  refine l_assign rfl rfl rfl ?_
  refine l_assign rfl rfl rfl ?_
  refine l_nil ?_
  refine e_then ?_
  refine c_keep [0, 1] (.cons rfl (.cons rfl .nil)) ?_
  refine c_seq ?_
  refine c_region ?_
  refine l_move rfl rfl rfl ?_
  refine l_move rfl rfl rfl ?_
  refine l_call rfl rfl Try.func32 rfl rfl (.cons rfl (.cons rfl .nil)) (ofF k b hb w) ?_
  rintro _ w1 ⟨vn, ln, vd, ld, kk, bb, er, rfl, her, hok, hG⟩
  have hw1 := hG _ _ _ _ hw0
  try clear hG hw0
  simp only [List.cons_append, List.nil_append] at hw1
  have hnn := slice_one (hw1.io mem0)
  have hnd := slice_one (hw1.io mem1)
  refine l_move rfl rfl rfl ?_
  refine l_extract rfl rfl rfl rfl ?_
  refine l_extract rfl rfl rfl rfl ?_
  refine l_alloc hw1 ta70 rfl rfl (fun b1_6 w2 hw2 => ?_)
  try clear hw1
  refine l_store_blks hw2 .head (.zero (.zero (.zero (.zero .nil)))) rfl tz70 rfl rfl (by first | (simp [Value.oneCell']; done) | (intro u hu; simp only [List.mem_cons, List.not_mem_nil, or_false] at hu; rcases hu with rfl | rfl | rfl | rfl <;> first | rfl | assumption)) (fun w3 hw3 => ?_)
  try clear hw2
  refine l_assign rfl rfl rfl ?_
  refine l_nil ?_
  refine e_then ?_
  refine c_keep [6, 7] (.cons rfl (.cons rfl .nil)) ?_
  refine c_seq ?_
  refine c_seq ?_
  refine c_region ?_
  refine l_move rfl rfl rfl ?_
  refine l_neq rfl rfl rfl rfl ?_
  refine l_nil ?_
  refine e_then ?_
  refine c_keep [6, 7, 19] (.cons rfl (.cons rfl (.cons rfl .nil))) ?_
  first | refine c_cond rfl (fun hc0 => ?_) (fun hc0 => ?_) | refine c_condb rfl (fun hc0 => ?_) (fun hc0 => ?_)
  · skip
    refine c_seq ?_
    refine c_region ?_
    refine l_move rfl rfl rfl ?_
    refine l_assign rfl rfl rfl ?_
    refine l_assign rfl rfl rfl ?_
    refine l_assign rfl rfl rfl ?_
    refine l_nil ?_
    refine e_then ?_
    refine c_keep [4, 5, 6] (.cons rfl (.cons rfl (.cons rfl .nil))) ?_
    refine c_ret ?_
    refine e_then_ret ?_
    refine e_doneN Try.results9 (.tmp rfl (.tmp rfl (.tmp rfl .nil))) rfl ?_
    refine ⟨_, rfl, ?_⟩
    have hw4 := St.del (.tail (.tail .head)) hw3
    try clear hw3
    have hw5 := St.del (.tail .head) hw4
    try clear hw4
    have hw6 := St.del .head hw5
    try clear hw5
    exact ⟨_, _, _, rfl, ⟨her, fun _ => ⟨rfl, rfl⟩, fun h => absurd h (by omega)⟩, hw6.grows⟩
  · skip
    have her0 : er = 0 := by omega
    obtain ⟨d, hk, hltS, hlo, hhi, hkk, hbb, hcn, hcd⟩ := hok her0
    rw [← hbb] at hlo hhi hcn hcd
    have hk2 : kd kk = some d := by rw [hkk]; exact hk
    have hfl := flt_of ⟨hlo, hhi⟩
    have hfx := hfl.bx
    have hfy := hfl.by'
    obtain ⟨t, ht, het, hlo4, hhi3, hlt64⟩ := flt_top hfl
    have hes := ht.le hfl.hy het
    refine c_skip ?_
    refine e_then ?_
    refine c_keep [7] (.cons rfl .nil) ?_
    refine c_seq ?_
    refine c_region ?_
    refine l_field fo70_0 rfl rfl rfl ?_
    refine l_load_agg hw3 mem0 rfl rfl Try.underlying68 rfl tz68 rfl (.take (.take .nil)) ?_
    refine l_call rfl rfl Try.func33 rfl rfl (.cons rfl .nil) (sizeF vn vd ln ld _ _ hcn hcd (by omega) (by omega) hfl.hy t ht hes hlt64 hlo4 (by omega) w3 (hw3.io mem2) (hw3.io mem1)) ?_
    rintro _ w7 ⟨rfl, hG⟩
    have hw7 := hG _ _ _ _ hw3
    try clear hG hw3
    simp only [List.cons_append, List.nil_append] at hw7
    refine l_assign rfl rfl rfl ?_
    refine l_nil ?_
    refine e_then ?_
    refine c_keep [5, 7] (.cons rfl (.cons rfl .nil)) ?_
    refine c_block ?_
    refine c_loopk (ι := Int) (fun (f : Int) => (f - (t - 18)).toNat) (fun (f : Int) (w' : World) => St w w.heap.size None' ([As.blk b1_6 70 [vn, vd, .int .i64 kk, .int .u64 bb], As.ri 22 .u64 vd ld, As.ri 22 .u64 vn ln]) w' ∧ t - 17 ≤ f ∧ f ≤ t ∧ (∀ g, f < g → g ≤ t → ¬ hit d bb (fX d bb) (fY d bb) g)) (fun (f : Int) => [(5, .int .i64 f)]) [7] (t) ?_ (.cons rfl .nil) ?_ ?_
    · exact ⟨hw7, by omega, Int.le_refl _, fun g h1 h2 => by omega⟩
    · exact (.cons rfl (by first | rfl | (refine congrArg (Value.int _) ?_; omega)) .nil)
    rintro f w8 ⟨hw8, hf1, hf2, hno⟩
    show RunC P _ _ _ (_ :: _) _
    refine c_seq ?_
    refine c_block ?_
    refine c_seq ?_
    refine c_region ?_
    have hq := fQ_bd (Int.le_of_lt hfl.hx) hfl.hy ht 18 (e := f) (by omega)
    rw [show (10 : Int) ^ 18 = 1000000000000000000 by decide] at hq
    refine l_field fo70_0 rfl rfl rfl ?_
    refine l_load_agg hw8 mem0 rfl rfl Try.underlying68 rfl tz68 rfl (.take (.take .nil)) ?_
    refine l_move rfl rfl rfl ?_
    refine l_call rfl rfl Try.func34 rfl rfl (.cons rfl (.cons rfl .nil)) (wholeF vn vd ln ld _ _ hcn hcd (by omega) (by omega) hfl.hy f (by omega) w8 (hw8.io mem2) (hw8.io mem1)) ?_
    rintro _ w9 ⟨rfl, hG⟩
    have hw9 := hG _ _ _ _ hw8
    try clear hG hw8
    simp only [List.cons_append, List.nil_append] at hw9
    refine l_move rfl rfl rfl ?_
    refine l_extract rfl rfl rfl rfl ?_
    refine l_extract rfl rfl rfl rfl ?_
    refine l_turn (s := 31) (v' := .int .u64 (fQ (fX d bb) (fY d bb) f)) rfl (congrArg (Value.int .u64) (Int.emod_eq_of_lt hq.1 (Int.lt_trans hq.2 (by decide)))) ?_
    refine l_assign rfl rfl rfl ?_
    refine l_assign rfl rfl rfl ?_
    refine l_nil ?_
    refine e_then ?_
    refine c_keep [5, 7, 8, 9] (.cons rfl (.cons rfl (.cons rfl (.cons rfl .nil)))) ?_
    refine c_seq ?_
    have hw10 := hw9.drewn
    try clear hw9
    refine c_any (n := 11) [false, false, false, false, false, false, false, false, false, false, false] (fun wS => (As.blk b1_6 70 [vn, vd, .int .i64 kk, .int .u64 bb]).ok wS) (by kernel_rfl) rfl rfl ?_
    apply a_take (L' := [true, false, false, false, false, false, false, false, false, false, false]) 0 rfl (by kernel_rfl) (by kernel_rfl) (by kernel_rfl) rfl rfl rfl rfl rfl (hw10.ok mem0)
    · intro wS sS
      refine l_load_agg (blk_st sS) mem0 rfl rfl Try.underlying70 rfl tz70 rfl (.take (.take (.take (.take .nil)))) ?_
      refine l_nil ?_
      exact e_got rfl
    apply a_take (L' := [true, true, false, false, false, false, false, false, false, false, false]) 1 rfl (by kernel_rfl) (by kernel_rfl) (by kernel_rfl) rfl rfl rfl rfl rfl (hw10.ok mem0)
    · intro wS sS
      refine l_move rfl rfl rfl ?_
      refine l_nil ?_
      exact e_got rfl
    apply a_take (L' := [true, true, true, false, false, false, false, false, false, false, false]) 2 rfl (by kernel_rfl) (by kernel_rfl) (by kernel_rfl) rfl rfl rfl rfl rfl (hw10.ok mem0)
    · intro wS sS
      refine l_move rfl rfl rfl ?_
      refine l_nil ?_
      exact e_got rfl
    apply a_take (L' := [true, true, true, false, true, false, false, false, false, false, false]) 4 rfl (by kernel_rfl) (by kernel_rfl) (by kernel_rfl) rfl rfl rfl rfl rfl (hw10.ok mem0)
    · intro wS sS
      refine l_load_agg (blk_st sS) mem0 rfl rfl Try.underlying70 rfl tz70 rfl (.take (.take (.take (.take .nil)))) ?_
      refine l_nil ?_
      exact e_got rfl
    apply a_take (L' := [true, true, true, false, true, true, false, false, false, false, false]) 5 rfl (by kernel_rfl) (by kernel_rfl) (by kernel_rfl) rfl rfl rfl rfl rfl (hw10.ok mem0)
    · intro wS sS
      refine l_move rfl rfl rfl ?_
      refine l_nil ?_
      exact e_got rfl
    apply a_take (L' := [true, true, true, false, true, true, true, false, false, false, false]) 6 rfl (by kernel_rfl) (by kernel_rfl) (by kernel_rfl) rfl rfl rfl rfl rfl (hw10.ok mem0)
    · intro wS sS
      refine l_add rfl rfl rfl rfl (w_u64 (by omega)) ?_
      refine l_nil ?_
      exact e_got rfl
    apply a_take (L' := [true, true, true, false, true, true, true, true, false, false, false]) 7 rfl (by kernel_rfl) (by kernel_rfl) (by kernel_rfl) rfl rfl rfl rfl rfl (hw10.ok mem0)
    · intro wS sS
      refine l_move rfl rfl rfl ?_
      refine l_nil ?_
      exact e_got rfl
    refine a_one (L' := [true, true, true, true, true, true, true, true, false, false, false]) 3 (by kernel_rfl) rfl rfl ?_
    refine l_call rfl rfl Try.func35 rfl rfl (.cons rfl (.cons rfl (.cons rfl .nil))) (readsF vn vd ln ld kk d hk2 bb (fQ (fX d bb) (fY d bb) f) f ⟨hlo, hhi⟩ (by omega) w9.drew (hw10.io mem2) (hw10.io mem1)) ?_
    rintro _ w11 ⟨rfl, hG⟩
    have hw11 := hG _ _ _ _ hw10
    try clear hG hw10
    simp only [List.cons_append, List.nil_append] at hw11
    refine l_nil ?_
    refine e_any (hw11.ok mem0) ?_
    refine a_one (L' := [true, true, true, true, true, true, true, true, true, false, false]) 8 (by kernel_rfl) rfl rfl ?_
    refine l_call rfl rfl Try.func35 rfl rfl (.cons rfl (.cons rfl (.cons rfl .nil))) (readsF vn vd ln ld kk d hk2 bb (fQ (fX d bb) (fY d bb) f + 1) f ⟨hlo, hhi⟩ (by omega) w11 (hw11.io mem2) (hw11.io mem1)) ?_
    rintro _ w12 ⟨rfl, hG⟩
    have hw12 := hG _ _ _ _ hw11
    try clear hG hw11
    simp only [List.cons_append, List.nil_append] at hw12
    refine l_nil ?_
    refine e_any (hw12.ok mem0) ?_
    apply a_take (L' := [true, true, true, true, true, true, true, true, true, true, false]) 9 rfl (by kernel_rfl) (by kernel_rfl) (by kernel_rfl) rfl rfl rfl rfl rfl (hw12.ok mem0)
    · intro wS sS
      refine l_assign rfl rfl rfl ?_
      refine l_nil ?_
      exact e_got rfl
    apply a_take (L' := [true, true, true, true, true, true, true, true, true, true, true]) 10 rfl (by kernel_rfl) (by kernel_rfl) (by kernel_rfl) rfl rfl rfl rfl rfl (hw12.ok mem0)
    · intro wS sS
      refine l_assign rfl rfl rfl ?_
      refine l_nil ?_
      exact e_got rfl
    refine a_done (by kernel_rfl) ?_
    refine e_then ?_
    refine c_keep [5, 7, 8, 9, 10, 11] (.cons rfl (.cons rfl (.cons rfl (.cons rfl (.cons rfl (.cons rfl .nil)))))) ?_
    refine c_seq ?_
    refine c_seq ?_
    refine c_region ?_
    refine l_move rfl rfl rfl ?_
    first | refine l_notd rfl rfl rfl ?_ | refine l_not rfl rfl rfl ?_
    refine l_turn (s := 43) (v' := .bool (decide (¬ rdQ d bb (fQ (fX d bb) (fY d bb) f) f))) rfl (by rw [decide_not]) ?_
    refine l_move rfl rfl rfl ?_
    apply l_and 2 [5, 7, 8, 9, 10, 11] rfl rfl (.cons rfl (.cons rfl (.cons rfl (.cons rfl (.cons rfl (.cons rfl (.cons rfl .nil))))))) rfl rfl (fun _ => rfl) rfl rfl rfl
    · intro hg8_3
      refine l_move rfl rfl rfl ?_
      first | refine l_notd rfl rfl rfl ?_ | refine l_not rfl rfl rfl ?_
      refine l_nil ?_
      exact e_stays rfl (.cons rfl (congrArg Value.bool (decide_eq_true hg8_3).symm) (.cons rfl rfl (.cons rfl rfl (.cons rfl rfl (.cons rfl rfl (.cons rfl rfl (.cons rfl rfl .nil)))))))
      all_goals infer_instance
    refine l_nil ?_
    refine e_then ?_
    refine c_keep [5, 7, 8, 9, 10, 11, 47] (.cons rfl (.cons rfl (.cons rfl (.cons rfl (.cons rfl (.cons rfl (.cons rfl .nil))))))) ?_
    first | refine c_cond rfl (fun hc1 => ?_) (fun hc1 => ?_) | refine c_condb rfl (fun hc1 => ?_) (fun hc1 => ?_)
    · skip
      refine c_exit ?_
      refine e_then_exit ?_
      refine e_blk_exit ?_
      refine e_then ?_
      refine c_keep [5, 7] (.cons rfl (.cons rfl .nil)) ?_
      refine c_region ?_
      refine l_move rfl rfl rfl ?_
      refine l_sub rfl rfl rfl rfl (w_i64 (by omega)) ?_
      refine l_assign rfl rfl rfl ?_
      refine l_nil ?_
      have hmiss : ¬ hit d bb (fX d bb) (fY d bb) f := fun h => h.elim hc1.1 hc1.2
      obtain ⟨hf3, hno2⟩ := no_next ⟨hlo, hhi⟩ hfl ht (by omega) hf1 hno hmiss
      refine e_againk (i := (f)) (f - 1) ?_ ?_ (.cons rfl .nil) ?_
      · first | omega | (simp; omega)
      · exact ⟨hw12, hf3, by omega, hno2⟩
      · exact (.cons rfl (by first | rfl | (refine congrArg (Value.int _) ?_; omega)) .nil)
    · skip
      refine c_skip ?_
      refine e_then ?_
      refine c_keep [5, 8, 9, 10, 11] (.cons rfl (.cons rfl (.cons rfl (.cons rfl (.cons rfl .nil))))) ?_
      refine c_seq ?_
      refine c_region ?_
      have hhit : hit d bb (fX d bb) (fY d bb) f := Classical.byContradiction fun h => hc1 ⟨fun a => h (.inl a), fun b => h (.inr b)⟩
      have hpp := pick_pos (Int.le_of_lt hfl.hx) hfl.hy ht hhit
      have hpb := pick_le (d := d) (b := bb) hq.2
      refine l_move rfl rfl rfl ?_
      refine l_assign rfl rfl rfl ?_
      refine l_nil ?_
      refine e_then ?_
      refine c_keep [4, 5, 8, 9, 10, 11] (.cons rfl (.cons rfl (.cons rfl (.cons rfl (.cons rfl (.cons rfl .nil)))))) ?_
      refine c_cutk (ι := Int) (fun (m0 : Int) (w' : World) => St w w.heap.size None' ([]) w' ∧ m0 = pickM d bb (fX d bb) (fY d bb) f) (fun (m0 : Int) => [(4, .int .u64 m0)]) [5] (.cons rfl .nil) ?_ ?_
      · skip
        refine c_seq ?_
        refine c_region ?_
        refine l_move rfl rfl rfl ?_
        first | refine l_notd rfl rfl rfl ?_ | refine l_not rfl rfl rfl ?_
        refine l_turn (s := 50) (v' := .bool (decide (¬ rdQ d bb (fQ (fX d bb) (fY d bb) f) f))) rfl (by rw [decide_not]) ?_
        refine l_move rfl rfl rfl ?_
        apply l_or (q := rdQ d bb (fQ (fX d bb) (fY d bb) f + 1) f ∧ (0 < hfS (fX d bb) (fY d bb) f ∨ (hfS (fX d bb) (fY d bb) f = 0 ∧ fQ (fX d bb) (fY d bb) f % 2 = 1))) 14 [4, 5] rfl rfl (.cons rfl (.cons rfl (.cons rfl .nil))) rfl rfl (fun _ => rfl) rfl rfl rfl
        · intro hg10_3
          refine l_move rfl rfl rfl ?_
          refine l_move rfl rfl rfl ?_
          apply l_and (q := 0 < hfS (fX d bb) (fY d bb) f ∨ (hfS (fX d bb) (fY d bb) f = 0 ∧ fQ (fX d bb) (fY d bb) f % 2 = 1)) 11 [4, 5, 51] rfl rfl (.cons rfl (.cons rfl (.cons rfl (.cons rfl .nil)))) rfl rfl (fun _ => rfl) rfl rfl rfl
          · intro hg10_5
            refine l_move rfl rfl rfl ?_
            refine l_gtr rfl rfl rfl rfl ?_
            refine l_move rfl rfl rfl ?_
            apply l_or (q := hfS (fX d bb) (fY d bb) f = 0 ∧ fQ (fX d bb) (fY d bb) f % 2 = 1) 7 [4, 5, 51, 53] rfl rfl (.cons rfl (.cons rfl (.cons rfl (.cons rfl (.cons rfl .nil))))) rfl rfl (fun _ => rfl) rfl rfl rfl
            · intro hg10_8
              refine l_move rfl rfl rfl ?_
              refine l_eql rfl rfl rfl rfl ?_
              refine l_move rfl rfl rfl ?_
              apply l_and (q := fQ (fX d bb) (fY d bb) f % 2 = 1) 3 [4, 5, 51, 53, 56] rfl rfl (.cons rfl (.cons rfl (.cons rfl (.cons rfl (.cons rfl (.cons rfl .nil)))))) rfl rfl (fun _ => rfl) rfl rfl rfl
              · intro hg10_11
                refine l_move rfl rfl rfl ?_
                refine l_rem rfl rfl rfl rfl (by omega) (r_pos (by omega)) ?_
                refine l_eql rfl rfl rfl rfl ?_
                refine l_nil ?_
                exact e_stays rfl (.cons rfl (congrArg Value.bool (decide_eq_true hg10_11).symm) (.cons rfl rfl (.cons rfl rfl (.cons rfl rfl (.cons rfl rfl (.cons rfl rfl .nil))))))
                all_goals infer_instance
              refine l_nil ?_
              exact e_stays rfl (.cons rfl (congrArg Value.bool (decide_eq_false hg10_8).symm) (.cons rfl rfl (.cons rfl rfl (.cons rfl rfl (.cons rfl rfl .nil)))))
              all_goals infer_instance
            refine l_nil ?_
            exact e_stays rfl (.cons rfl (congrArg Value.bool (decide_eq_true hg10_5).symm) (.cons rfl rfl (.cons rfl rfl (.cons rfl rfl .nil))))
            all_goals infer_instance
          refine l_nil ?_
          exact e_stays rfl (.cons rfl (congrArg Value.bool (decide_eq_false hg10_3).symm) (.cons rfl rfl (.cons rfl rfl .nil)))
          all_goals infer_instance
        refine l_nil ?_
        refine e_then ?_
        refine c_keep [4, 5, 66] (.cons rfl (.cons rfl (.cons rfl .nil))) ?_
        first | refine c_cond rfl (fun hc2 => ?_) (fun hc2 => ?_) | refine c_condb rfl (fun hc2 => ?_) (fun hc2 => ?_)
        · skip
          refine c_region ?_
          refine l_move rfl rfl rfl ?_
          refine l_add rfl rfl rfl rfl (w_u64 (by omega)) ?_
          refine l_assign rfl rfl rfl ?_
          refine l_nil ?_
          have hw13 := St.del (.tail (.tail .head)) hw12
          try clear hw12
          have hw14 := St.del (.tail .head) hw13
          try clear hw13
          have hw15 := St.del .head hw14
          try clear hw14
          refine e_meetk (fQ (fX d bb) (fY d bb) f + 1) ?_ (.cons rfl .nil) ?_
          · exact ⟨hw15, (if_pos (c := upp d bb (fX d bb) (fY d bb) f) hc2).symm⟩
          · exact (.cons rfl (by first | rfl | (refine congrArg (Value.int _) ?_; omega)) .nil)
        · skip
          refine c_skip ?_
          have hw16 := St.del (.tail (.tail .head)) hw12
          try clear hw12
          have hw17 := St.del (.tail .head) hw16
          try clear hw16
          have hw18 := St.del .head hw17
          try clear hw17
          refine e_meetk (fQ (fX d bb) (fY d bb) f) ?_ (.cons rfl .nil) ?_
          · exact ⟨hw18, (if_neg (c := upp d bb (fX d bb) (fY d bb) f) hc2).symm⟩
          · exact (.cons rfl (by first | rfl | (refine congrArg (Value.int _) ?_; omega)) .nil)
      rintro m0 w19 ⟨hw19, hm0d⟩
      show RunC P _ _ _ (_ :: _) _
      refine c_seq ?_
      refine c_block ?_
      refine c_loopk (ι := Nat × Int) (fun (z0 : Nat × Int) => match z0 with | ⟨j, m⟩ => m.toNat) (fun (z0 : Nat × Int) (w' : World) => match z0 with | ⟨j, m⟩ => St w w.heap.size None' ([]) w' ∧ m0 = m * 10 ^ j ∧ 0 < m ∧ m ≤ 1000000000000000000) (fun (z0 : Nat × Int) => match z0 with | ⟨j, m⟩ => [(4, .int .u64 m), (5, .int .i64 (f + j))]) [] (0, m0) ?_ .nil ?_ ?_
      · exact ⟨hw19, by simp, by omega, by omega⟩
      · exact (.cons rfl (by first | rfl | (refine congrArg (Value.int _) ?_; omega)) (.cons rfl (by first | rfl | (refine congrArg (Value.int _) ?_; omega)) .nil))
      rintro ⟨j, m⟩ w20 ⟨hw20, hm0, hmp, hm1⟩
      show RunC P _ _ _ (_ :: _) _
      have hj := pow10_le (j := j) hmp (by omega)
      refine c_seq ?_
      refine c_seq ?_
      refine c_region ?_
      refine l_move rfl rfl rfl ?_
      refine l_rem rfl rfl rfl rfl (by omega) (r_pos (by omega)) ?_
      refine l_eql rfl rfl rfl rfl ?_
      refine l_nil ?_
      refine e_then ?_
      refine c_keep [4, 5, 71] (.cons rfl (.cons rfl (.cons rfl .nil))) ?_
      first | refine c_cond rfl (fun hc3 => ?_) (fun hc3 => ?_) | refine c_condb rfl (fun hc3 => ?_) (fun hc3 => ?_)
      · skip
        refine c_skip ?_
        refine e_then ?_
        refine c_keep [4, 5] (.cons rfl (.cons rfl .nil)) ?_
        refine c_block ?_
        refine c_seq ?_
        refine c_region ?_
        refine l_move rfl rfl rfl ?_
        refine l_quo rfl rfl rfl rfl (by omega) (q_u64 (by omega)) ?_
        refine l_assign rfl rfl rfl ?_
        refine l_nil ?_
        refine e_then ?_
        refine c_keep [4, 5] (.cons rfl (.cons rfl .nil)) ?_
        refine c_region ?_
        refine l_move rfl rfl rfl ?_
        refine l_add rfl rfl rfl rfl (w_i64 (by omega)) ?_
        refine l_assign rfl rfl rfl ?_
        refine l_nil ?_
        refine e_blk ?_
        refine e_againk (i := (j, m)) (j + 1, m / 10) ?_ ?_ .nil ?_
        · first | omega | (simp; omega)
        · exact ⟨hw20, pow10_next hm0 (by omega), by omega, by omega⟩
        · exact (.cons rfl (by first | rfl | (refine congrArg (Value.int _) ?_; omega)) (.cons rfl (by first | rfl | (refine congrArg (Value.int _) ?_; omega)) .nil))
      · skip
        refine c_exit ?_
        refine e_then_exit ?_
        refine e_then_exit ?_
        refine e_blk_exit ?_
        refine e_then ?_
        refine c_keep [4, 5] (.cons rfl (.cons rfl .nil)) ?_
        refine c_seq ?_
        refine c_region ?_
        refine l_move rfl rfl rfl ?_
        refine l_move rfl rfl rfl ?_
        refine l_assign rfl rfl rfl ?_
        refine l_assign rfl rfl rfl ?_
        refine l_assign rfl rfl rfl ?_
        refine l_nil ?_
        refine e_then ?_
        refine c_keep [4, 5, 6] (.cons rfl (.cons rfl (.cons rfl .nil))) ?_
        refine c_ret ?_
        refine e_blk_ret ?_
        refine e_then_ret ?_
        refine e_then_ret ?_
        refine e_blk_ret ?_
        refine e_doneN Try.results9 (.tmp rfl (.tmp rfl (.tmp rfl .nil))) rfl ?_
        refine ⟨_, rfl, ?_⟩
        exact ⟨_, _, _, rfl, ⟨by omega, fun h => absurd rfl h, fun _ => ⟨d, hk, hltS, by omega, by omega, by rw [← hbb]; exact ⟨t, f, ⟨ht, hf2, hno, hhit⟩, by rw [← hm0d]; exact StripR.go hm0 (by omega)⟩⟩⟩, hw20.grows⟩
theorem CountF (k b : Int) (hb : 0 ≤ b ∧ b ≤ 18446744073709551615) (w : World) :
    CallsV P 27 [.int .i64 k, .int .u64 b] w fun r w' => ∃ m e er, r = .tuple #[.int .i64 (if er = 0 then ((dtx m).length : Int) else 0), .int .i64 er] ∧ DigE k b m e er ∧ Grow w w' [] := by
  refine enterW Try.func27 rfl Try.ntmps27 rfl ?_
  have hw0 := St.start w
  refine c_seq ?_
  refine c_region ?_
  refine l_assign rfl rfl rfl ?_
  refine l_assign rfl rfl rfl ?_
  refine l_nil ?_
  refine e_then ?_
  refine c_keep [0, 1] (.cons rfl (.cons rfl .nil)) ?_
  refine c_seq ?_
  refine c_region ?_
  refine l_move rfl rfl rfl ?_
  refine l_move rfl rfl rfl ?_
  refine l_call rfl rfl Try.func9 rfl rfl (.cons rfl (.cons rfl .nil)) (DigitsF k b hb w) ?_
  rintro _ w1 ⟨m, e, er, rfl, hE, hG⟩
  have hw1 := hG _ _ _ _ hw0
  try clear hG hw0
  simp only [List.cons_append, List.nil_append] at hw1
  have hbdE := hE.bd
  refine l_move rfl rfl rfl ?_
  refine l_extract rfl rfl rfl rfl ?_
  refine l_extract rfl rfl rfl rfl ?_
  refine l_extract rfl rfl rfl rfl ?_
  refine l_assign rfl rfl rfl ?_
  refine l_assign rfl rfl rfl ?_
  refine l_assign rfl rfl rfl ?_
  refine l_nil ?_
  refine e_then ?_
  refine c_keep [6, 8] (.cons rfl (.cons rfl .nil)) ?_
  refine c_seq ?_
  refine c_seq ?_
  refine c_region ?_
  refine l_move rfl rfl rfl ?_
  refine l_neq rfl rfl rfl rfl ?_
  refine l_nil ?_
  refine e_then ?_
  refine c_keep [6, 8, 17] (.cons rfl (.cons rfl (.cons rfl .nil))) ?_
  first | refine c_cond rfl (fun hc0 => ?_) (fun hc0 => ?_) | refine c_condb rfl (fun hc0 => ?_) (fun hc0 => ?_)
  · skip
    refine c_seq ?_
    refine c_region ?_
    refine l_move rfl rfl rfl ?_
    refine l_assign rfl rfl rfl ?_
    refine l_assign rfl rfl rfl ?_
    refine l_nil ?_
    refine e_then ?_
    refine c_keep [4, 5] (.cons rfl (.cons rfl .nil)) ?_
    refine c_ret ?_
    refine e_then_ret ?_
    refine e_done2 Try.results27 rfl rfl ?_
    refine ⟨_, rfl, ?_⟩
    refine ⟨_, _, _, ?_, hE, hw1.grows⟩
    rw [if_neg hc0]
    all_goals rfl
  · skip
    refine c_skip ?_
    refine e_then ?_
    refine c_keep [6] (.cons rfl .nil) ?_
    refine c_seq ?_
    refine c_region ?_
    have hMb : Ma.blen m ≤ (64 : Nat) := (Ma.blen_le_iff (by omega) 64).2 (by omega)
    refine l_move rfl rfl rfl ?_
    refine l_call rfl rfl Try.func53 rfl rfl (.cons rfl .nil) (ofN m (by omega) w1) ?_
    rintro vm w2 ⟨_, lm, rfl, hcm, hG⟩
    have hw2 := hG _ _ _ _ hw1
    try clear hG hw1
    simp only [List.cons_append, List.nil_append] at hw2
    refine l_call rfl rfl Try.func52 rfl rfl (.cons rfl .nil) (textN vm lm (cnU hcm) (by have := cn_lenb hcm hMb; omega) w2 (hw2.io mem0)) ?_
    rintro _ w3 ⟨rfl, hG⟩
    have hw3 := hG _ _ _ _ hw2
    try clear hG hw2
    simp only [List.cons_append, List.nil_append] at hw3
    refine l_lenstr rfl rfl Try.underlying9 rfl ?_
    refine l_assign rfl rfl rfl ?_
    refine l_assign rfl rfl rfl ?_
    refine l_nil ?_
    refine e_then ?_
    refine c_keep [4, 5] (.cons rfl (.cons rfl .nil)) ?_
    refine c_ret ?_
    refine e_done2 Try.results27 rfl rfl ?_
    refine ⟨_, rfl, ?_⟩
    have hw4 := St.del .head hw3
    try clear hw3
    have her : er = 0 := by omega
    refine ⟨_, _, _, ?_, hE, hw4.grows⟩
    rw [if_pos her, her, show nv lm = m from hcm.val]
    all_goals rfl
end Go.Proofs.Ytmcbdgpcbcldjaa.W
