/- walks of nat.guess, times, more -/
import Derived.Test.YtmcbdgpcbcldjaaFm
import Derived.Test.YtmcbdgpcbcldjaaFg
import Derived.Test.YtmcbdgpcbcldjaaVi
set_option linter.unusedVariables false
set_option linter.unusedSimpArgs false
set_option maxRecDepth 10000
namespace Go.Proofs.Ytmcbdgpcbcldjaa.W
open Go.Vc Go.RowKit
/-! ### digits of a quotient, by the top limbs -/
theorem digit_top {P d W p d1 q : Int} (hW : 0 < W) (hq : 0 ≤ q) (hd : d1 * W ≤ d) (hP : P < (p + 1) * W) (h : q * d ≤ P) : q * d1 ≤ p := by
  have h1 : q * (d1 * W) ≤ q * d := Int.mul_le_mul_of_nonneg_left hd hq
  rw [← Int.mul_assoc] at h1
  have h2 : q * d1 * W < (p + 1) * W := by omega
  have := Int.lt_of_mul_lt_mul_right h2 (Int.le_of_lt hW)
  omega
/-- a guess that is too many by the top limbs is more than the digit -/
theorem digit_less {P d W p d1 q g : Int} (hW : 0 < W) (hq : 0 ≤ q) (hd1 : 0 < d1) (hd : d1 * W ≤ d) (hP : P < (p + 1) * W) (h : q * d ≤ P) (hg : p < g * d1) : q < g := by
  have h1 := digit_top hW hq hd hP h
  have h2 : q * d1 < g * d1 := by omega
  exact Int.lt_of_mul_lt_mul_right h2 (Int.le_of_lt hd1)
/-- one bit of the document's division -/
theorem over_step {nA nb vq vr p Q : Int} (hp : 0 < p) (hq : vq = Q * (2 * p)) (hn : nA / (2 * p) = Q * nb + vr) (hr : 0 ≤ vr ∧ vr < nb) :
    (nb ≤ 2 * vr + nA / p % 2 → vq + p = (2 * Q + 1) * p ∧ nA / p = (2 * Q + 1) * nb + (2 * vr + nA / p % 2 - nb) ∧ 2 * vr + nA / p % 2 - nb < nb) ∧
    (¬ nb ≤ 2 * vr + nA / p % 2 → vq = (2 * Q) * p ∧ nA / p = (2 * Q) * nb + (2 * vr + nA / p % 2)) := by
  have e : nA / (2 * p) = nA / p / 2 := by rw [Int.mul_comm, Int.ediv_ediv_of_nonneg (Int.le_of_lt hp)]
  have e1 : vq = 2 * (Q * p) := by rw [hq, Int.mul_left_comm]
  have e2 : (2 * Q) * nb = 2 * (Q * nb) := Int.mul_assoc ..
  have e3 : (2 * Q) * p = 2 * (Q * p) := Int.mul_assoc ..
  rw [Int.add_mul, Int.add_mul, Int.one_mul, Int.one_mul, e2, e3]
  omega


/-- the limbs on top of a row -/
theorem nv_top1 {l : List Int} (hU : U l) (m : Nat) (hl : l.length = m + 1) : ∃ s, 0 ≤ s ∧ s < 18446744073709551616 ^ m ∧ nv l = s + 18446744073709551616 ^ m * l.getD m 0 := by
  have h2 := Ma.vb_take_succ 18446744073709551616 l m
  rw [List.take_of_length_le (by omega)] at h2
  have b1 := Ma.vb_nonneg (show (0 : Int) < 18446744073709551616 by omega) (hU.dg.take m)
  have b2 := Ma.vb_lt (show (0 : Int) < 18446744073709551616 by omega) (hU.dg.take m)
  rw [List.length_take, Nat.min_eq_left (by omega)] at b2
  exact ⟨_, b1, b2, h2⟩
theorem U.takeN {l : List Int} (h : U l) (n : Nat) : U (l.take n) := fun x hx => h x (List.mem_of_mem_take hx)
theorem getD_take {l : List Int} {n j : Nat} (h : j < n) : (l.take n).getD j 0 = l.getD j 0 := by simp [List.getD, List.getElem?_take, h]
theorem nv_top2 {l : List Int} (hU : U l) (m : Nat) (hl : l.length = m + 2) : ∃ s, 0 ≤ s ∧ s < 18446744073709551616 ^ m ∧ nv l = s + 18446744073709551616 ^ m * (l.getD m 0 + 18446744073709551616 * l.getD (m + 1) 0) := by
  obtain ⟨s, h0, h1, e⟩ := nv_top1 (l := l.take (m + 1)) (hU.takeN _) m (by rw [List.length_take]; omega)
  have h2 := Ma.vb_take_succ 18446744073709551616 l (m + 1)
  rw [List.take_of_length_le (show l.length ≤ m + 1 + 1 by omega)] at h2
  rw [getD_take (by omega)] at e
  refine ⟨s, h0, h1, ?_⟩
  show Ma.vb _ _ = _
  rw [h2, show Ma.vb 18446744073709551616 (l.take (m + 1)) = _ from e, Int.pow_succ, Int.mul_add, Int.mul_assoc, Int.add_assoc]
theorem nv_top3 {l : List Int} (hU : U l) (m : Nat) (hl : l.length = m + 3) : ∃ s, 0 ≤ s ∧ s < 18446744073709551616 ^ m ∧ nv l = s + 18446744073709551616 ^ m * (l.getD m 0 + 18446744073709551616 * (l.getD (m + 1) 0 + 18446744073709551616 * l.getD (m + 2) 0)) := by
  obtain ⟨s, h0, h1, e⟩ := nv_top2 (l := l.take (m + 2)) (hU.takeN _) m (by rw [List.length_take]; omega)
  have h2 := Ma.vb_take_succ 18446744073709551616 l (m + 2)
  rw [List.take_of_length_le (show l.length ≤ m + 2 + 1 by omega)] at h2
  rw [getD_take (by omega), getD_take (by omega)] at e
  refine ⟨s, h0, h1, ?_⟩
  show Ma.vb _ _ = _
  rw [h2, show Ma.vb 18446744073709551616 (l.take (m + 2)) = _ from e, Int.pow_succ, Int.pow_succ, Int.add_assoc, Int.mul_assoc, Int.mul_assoc, ← Int.mul_add]
  congr 2
  omega
theorem top_lt {s p x : Int} (h : s < p) : s + p * x < (x + 1) * p := by
  rw [Int.add_mul, Int.one_mul, Int.mul_comm x]
  omega
theorem guess_arith {X Y rs p0 p1 p2 : Int} (hp : p0 ≤ 18446744073709551615) (hg : X + rs = p2 * 18446744073709551616 + p1) (h : ¬ (Y / 18446744073709551616 < rs ∨ Y / 18446744073709551616 = rs ∧ Y % 18446744073709551616 ≤ p0)) : p0 + 18446744073709551616 * (p1 + 18446744073709551616 * p2) < Y + 18446744073709551616 * X := by
  omega
/-- the first guess is no less than the digit -/
theorem guess_up {pl dl : List Int} (hUp : U pl) (hUd : U dl) (hp : pl.length = dl.length + 1) (hn : 2 ≤ dl.length) (hd1 : 0 < dl.getD (dl.length - 1) 0) :
    nv pl / nv dl ≤ (pl.getD dl.length 0 * 18446744073709551616 + pl.getD (dl.length - 1) 0) / dl.getD (dl.length - 1) 0 := by
  obtain ⟨m, hm⟩ : ∃ m, dl.length = m + 2 := ⟨dl.length - 2, by omega⟩
  rw [hm] at hp hd1 ⊢
  simp only [show m + 2 - 1 = m + 1 from by omega] at hd1 ⊢
  obtain ⟨s, s0, s1, ep⟩ := nv_top2 hUp (m + 1) (by omega)
  obtain ⟨t, t0, t1, ed⟩ := nv_top1 hUd (m + 1) (by omega)
  have hW := Ma.pow_pos (show (0 : Int) < 18446744073709551616 by omega) (m + 1)
  have hdp : 0 < nv dl := by
    have := Int.mul_pos hW hd1
    omega
  have hq : 0 ≤ nv pl / nv dl := Int.ediv_nonneg hUp.nv_nonneg (by omega)
  rw [Int.le_ediv_iff_mul_le hd1]
  refine digit_top (P := nv pl) (d := nv dl) hW hq (by rw [ed, Int.mul_comm]; omega) ?_ (Int.ediv_mul_le _ (by omega))
  have e : pl.getD (m + 1) 0 + 18446744073709551616 * pl.getD (m + 1 + 1) 0 = pl.getD (m + 2) 0 * 18446744073709551616 + pl.getD (m + 1) 0 := by
    show _ + 18446744073709551616 * pl.getD (m + 2) 0 = _
    omega
  rw [ep, e]
  exact top_lt s1
/-- a guess that is too many by the three limbs on top -/
theorem guess_dn {pl dl : List Int} (hUp : U pl) (hUd : U dl) (hp : pl.length = dl.length + 1) (hn : 2 ≤ dl.length) (hd1 : 0 < dl.getD (dl.length - 1) 0) {g rs : Int}
    (hg : g * dl.getD (dl.length - 1) 0 + rs = pl.getD dl.length 0 * 18446744073709551616 + pl.getD (dl.length - 1) 0)
    (h : ¬ (g * dl.getD (dl.length - 2) 0 / 18446744073709551616 < rs ∨ g * dl.getD (dl.length - 2) 0 / 18446744073709551616 = rs ∧ g * dl.getD (dl.length - 2) 0 % 18446744073709551616 ≤ pl.getD (dl.length - 2) 0)) : nv pl / nv dl < g := by
  obtain ⟨m, hm⟩ : ∃ m, dl.length = m + 2 := ⟨dl.length - 2, by omega⟩
  rw [hm] at hp hd1 hg h
  simp only [show m + 2 - 1 = m + 1 from by omega, show m + 2 - 2 = m from by omega] at hd1 hg h
  obtain ⟨s, s0, s1, ep⟩ := nv_top3 hUp m (by omega)
  obtain ⟨t, t0, t1, ed⟩ := nv_top2 hUd m (by omega)
  have hW := Ma.pow_pos (show (0 : Int) < 18446744073709551616 by omega) m
  have hd0 := (getD_u hUd m).1
  have hdd : 0 < dl.getD m 0 + 18446744073709551616 * dl.getD (m + 1) 0 := by omega
  have hdp : 0 < nv dl := by
    have := Int.mul_pos hW hdd
    omega
  have hq : 0 ≤ nv pl / nv dl := Int.ediv_nonneg hUp.nv_nonneg (by omega)
  refine digit_less (W := 18446744073709551616 ^ m) (P := nv pl) (d := nv dl) (p := pl.getD m 0 + 18446744073709551616 * (pl.getD (m + 1) 0 + 18446744073709551616 * pl.getD (m + 2) 0)) hW hq hdd (by rw [ed, Int.mul_comm]; omega) ?_ (Int.ediv_mul_le _ (by omega)) ?_
  · rw [ep]
    exact top_lt s1
  · have e : g * (dl.getD m 0 + 18446744073709551616 * dl.getD (m + 1) 0) = g * dl.getD m 0 + 18446744073709551616 * (g * dl.getD (m + 1) 0) := by rw [Int.mul_add, Int.mul_left_comm]
    rw [e]
    exact guess_arith (getD_u hUp m).2 hg h

theorem guessN (vp vd : Value) (pl dl : List Int) (hUp : U pl) (hUd : U dl) (hpl : pl.length = dl.length + 1) (hn : 2 ≤ dl.length) (hL : dl.length ≤ 1073741824) (hd1 : 0 < dl.getD (dl.length - 1) 0) (hlt : nv pl < 18446744073709551616 * nv dl) (w : World) (hp : IV w vp (ints .u64 pl)) (hd : IV w vd (ints .u64 dl)) :
    CallsV P 87 [vp, vd] w fun r w' => ∃ g, r = .int .u64 g ∧ 0 ≤ g ∧ g ≤ 18446744073709551615 ∧ nv pl / nv dl ≤ g ∧ Grow w w' [] := by
  refine enterW Try.func87 rfl Try.ntmps87 rfl ?_
  have hw0 := St.start w
  have hq0 : 0 ≤ nv pl / nv dl := Int.ediv_nonneg hUp.nv_nonneg hUd.nv_nonneg
  have hdpos : 0 < nv dl := by
    have := hUp.nv_nonneg
    omega
  have hqW : nv pl / nv dl < 18446744073709551616 := Int.ediv_lt_of_lt_mul hdpos hlt
  refine c_seq ?_
  refine c_region ?_
  refine l_assign rfl rfl rfl ?_
  refine l_nil ?_
  refine e_then ?_
  refine c_keep [0, 1] (.cons rfl (.cons rfl .nil)) ?_
  refine c_seq ?_
  refine c_region ?_
  refine l_move rfl rfl rfl ?_
  refine v_leni rfl rfl Try.underlying66 rfl (by first | exact hw0.iarg hp | exact hw0.iarg hd | assumption) ?_
  refine l_assign rfl rfl rfl ?_
  refine l_nil ?_
  refine e_then ?_
  refine c_keep [0, 1, 5] (.cons rfl (.cons rfl (.cons rfl .nil))) ?_
  refine c_seq ?_
  refine c_seq ?_
  refine c_still (by kernel_rfl) (by kernel_rfl) ?_
  have hw1 := hw0.drewn
  try clear hw0
  refine l_move rfl rfl rfl ?_
  refine l_move rfl rfl rfl ?_
  refine v_getr (j := dl.length) rfl rfl rfl rfl Try.underlying66 tz22 Try.underlying22 rfl rfl (by first | exact hw1.iarg hp | exact hw1.iarg hd | assumption) (by assumption) rfl (by omega) (by first | omega | (simp; done) | (simp; omega)) (fun hb2_2 => ?_)
  refine l_move rfl rfl rfl ?_
  refine l_move rfl rfl rfl ?_
  refine l_sub rfl rfl rfl rfl (w_i64 (by omega)) ?_
  refine v_getr (j := dl.length - 1) rfl rfl rfl rfl Try.underlying66 tz22 Try.underlying22 rfl rfl (by first | exact hw1.iarg hp | exact hw1.iarg hd | assumption) (by assumption) rfl (by omega) (by first | omega | (simp; done) | (simp; omega)) (fun hb2_7 => ?_)
  refine l_geq rfl rfl rfl rfl ?_
  refine l_nil ?_
  refine e_then ?_
  refine c_keep [0, 1, 5, 22] (.cons rfl (.cons rfl (.cons rfl (.cons rfl .nil)))) ?_
  first | refine c_cond rfl (fun hc0 => ?_) (fun hc0 => ?_) | refine c_condb rfl (fun hc0 => ?_) (fun hc0 => ?_)
  · skip
    refine c_seq ?_
    refine c_region ?_
    refine l_assign rfl rfl rfl ?_
    refine l_nil ?_
    refine e_then ?_
    refine c_keep [4] (.cons rfl .nil) ?_
    refine c_ret ?_
    refine e_then_ret ?_
    refine e_done1 Try.results87 rfl ?_
    refine ⟨_, rfl, ?_⟩
    exact ⟨_, rfl, by omega, by omega, by omega, hw1.grows⟩
  · skip
    refine c_skip ?_
    refine e_then ?_
    refine c_keep [0, 1, 5] (.cons rfl (.cons rfl (.cons rfl .nil))) ?_
    refine c_seq ?_
    have hw2 := hw1.drewn
    try clear hw1
    obtain ⟨Ap4, cp4, hvp4⟩ := hp.lies (by simp; omega)
    obtain ⟨Ad4, cd4, hvd4⟩ := hd.lies (by simp; omega)
    have hb4_2 := getD_u hUp dl.length
    have hb4_7 := getD_u hUp (dl.length - 1)
    have hb4_12 := getD_u hUd (dl.length - 1)
    refine c_any (n := 20) [false, false, false, false, false, false, false, false, false, false, false, false, false, false, false, false, false, false, false, false] (fun wS => IS wS .u64 vp pl ∧ IS wS .u64 vd dl) (by kernel_rfl) rfl rfl ?_
    apply a_take (L' := [true, false, false, false, false, false, false, false, false, false, false, false, false, false, false, false, false, false, false, false]) 0 rfl (by kernel_rfl) (by kernel_rfl) (by kernel_rfl) rfl rfl rfl rfl rfl (⟨hw2.iarg hp, hw2.iarg hd⟩)
    · intro wS sS
      refine l_move rfl rfl rfl ?_
      refine l_nil ?_
      exact e_got rfl
    apply a_take (L' := [true, true, false, false, false, false, false, false, false, false, false, false, false, false, false, false, false, false, false, false]) 1 rfl (by kernel_rfl) (by kernel_rfl) (by kernel_rfl) rfl rfl rfl rfl rfl (⟨hw2.iarg hp, hw2.iarg hd⟩)
    · intro wS sS
      refine l_move rfl rfl rfl ?_
      refine l_nil ?_
      exact e_got rfl
    apply a_take (L' := [true, true, true, false, false, false, false, false, false, false, false, false, false, false, false, false, false, false, false, false]) 2 rfl (by kernel_rfl) (by kernel_rfl) (by kernel_rfl) rfl rfl rfl rfl rfl (⟨hw2.iarg hp, hw2.iarg hd⟩)
    · intro wS sS
      refine v_addrx (j := dl.length) rfl rfl Try.underlying66 tz22 rfl rfl hvp4 (by first | rfl | omega) (by first | omega | (simp; done) | (simp; omega)) ?_
      refine l_nil ?_
      exact e_got rfl
    apply a_take (L' := [true, true, true, true, false, false, false, false, false, false, false, false, false, false, false, false, false, false, false, false]) 3 rfl (by kernel_rfl) (by kernel_rfl) (by kernel_rfl) rfl rfl rfl rfl rfl (⟨hw2.iarg hp, hw2.iarg hd⟩)
    · intro wS sS
      refine v_loadi rfl rfl Try.underlying22 rfl hvp4 (by first | exact sS.1 | exact sS.2 | exact hw2.iarg hp | exact hw2.iarg hd | assumption) (by assumption) (by first | omega | (simp; done) | (simp; omega)) (fun hb4_3 => ?_)
      refine l_nil ?_
      exact e_got rfl
    apply a_take (L' := [true, true, true, true, true, false, false, false, false, false, false, false, false, false, false, false, false, false, false, false]) 4 rfl (by kernel_rfl) (by kernel_rfl) (by kernel_rfl) rfl rfl rfl rfl rfl (⟨hw2.iarg hp, hw2.iarg hd⟩)
    · intro wS sS
      refine l_move rfl rfl rfl ?_
      refine l_nil ?_
      exact e_got rfl
    apply a_take (L' := [true, true, true, true, true, true, false, false, false, false, false, false, false, false, false, false, false, false, false, false]) 5 rfl (by kernel_rfl) (by kernel_rfl) (by kernel_rfl) rfl rfl rfl rfl rfl (⟨hw2.iarg hp, hw2.iarg hd⟩)
    · intro wS sS
      refine l_move rfl rfl rfl ?_
      refine l_nil ?_
      exact e_got rfl
    apply a_take (L' := [true, true, true, true, true, true, true, false, false, false, false, false, false, false, false, false, false, false, false, false]) 6 rfl (by kernel_rfl) (by kernel_rfl) (by kernel_rfl) rfl rfl rfl rfl rfl (⟨hw2.iarg hp, hw2.iarg hd⟩)
    · intro wS sS
      refine l_sub rfl rfl rfl rfl (w_i64 (by omega)) ?_
      refine l_nil ?_
      exact e_got rfl
    apply a_take (L' := [true, true, true, true, true, true, true, true, false, false, false, false, false, false, false, false, false, false, false, false]) 7 rfl (by kernel_rfl) (by kernel_rfl) (by kernel_rfl) rfl rfl rfl rfl rfl (⟨hw2.iarg hp, hw2.iarg hd⟩)
    · intro wS sS
      refine v_addrx (j := dl.length - 1) rfl rfl Try.underlying66 tz22 rfl rfl hvp4 (by first | rfl | omega) (by first | omega | (simp; done) | (simp; omega)) ?_
      refine l_nil ?_
      exact e_got rfl
    apply a_take (L' := [true, true, true, true, true, true, true, true, true, false, false, false, false, false, false, false, false, false, false, false]) 8 rfl (by kernel_rfl) (by kernel_rfl) (by kernel_rfl) rfl rfl rfl rfl rfl (⟨hw2.iarg hp, hw2.iarg hd⟩)
    · intro wS sS
      refine v_loadi rfl rfl Try.underlying22 rfl hvp4 (by first | exact sS.1 | exact sS.2 | exact hw2.iarg hp | exact hw2.iarg hd | assumption) (by assumption) (by first | omega | (simp; done) | (simp; omega)) (fun hb4_8 => ?_)
      refine l_nil ?_
      exact e_got rfl
    apply a_take (L' := [true, true, true, true, true, true, true, true, true, true, false, false, false, false, false, false, false, false, false, false]) 9 rfl (by kernel_rfl) (by kernel_rfl) (by kernel_rfl) rfl rfl rfl rfl rfl (⟨hw2.iarg hp, hw2.iarg hd⟩)
    · intro wS sS
      refine l_move rfl rfl rfl ?_
      refine l_nil ?_
      exact e_got rfl
    apply a_take (L' := [true, true, true, true, true, true, true, true, true, true, true, false, false, false, false, false, false, false, false, false]) 10 rfl (by kernel_rfl) (by kernel_rfl) (by kernel_rfl) rfl rfl rfl rfl rfl (⟨hw2.iarg hp, hw2.iarg hd⟩)
    · intro wS sS
      refine l_move rfl rfl rfl ?_
      refine l_nil ?_
      exact e_got rfl
    apply a_take (L' := [true, true, true, true, true, true, true, true, true, true, true, true, false, false, false, false, false, false, false, false]) 11 rfl (by kernel_rfl) (by kernel_rfl) (by kernel_rfl) rfl rfl rfl rfl rfl (⟨hw2.iarg hp, hw2.iarg hd⟩)
    · intro wS sS
      refine l_sub rfl rfl rfl rfl (w_i64 (by omega)) ?_
      refine l_nil ?_
      exact e_got rfl
    apply a_take (L' := [true, true, true, true, true, true, true, true, true, true, true, true, true, false, false, false, false, false, false, false]) 12 rfl (by kernel_rfl) (by kernel_rfl) (by kernel_rfl) rfl rfl rfl rfl rfl (⟨hw2.iarg hp, hw2.iarg hd⟩)
    · intro wS sS
      refine v_addrx (j := dl.length - 1) rfl rfl Try.underlying66 tz22 rfl rfl hvd4 (by first | rfl | omega) (by first | omega | (simp; done) | (simp; omega)) ?_
      refine l_nil ?_
      exact e_got rfl
    apply a_take (L' := [true, true, true, true, true, true, true, true, true, true, true, true, true, true, false, false, false, false, false, false]) 13 rfl (by kernel_rfl) (by kernel_rfl) (by kernel_rfl) rfl rfl rfl rfl rfl (⟨hw2.iarg hp, hw2.iarg hd⟩)
    · intro wS sS
      refine v_loadi rfl rfl Try.underlying22 rfl hvd4 (by first | exact sS.1 | exact sS.2 | exact hw2.iarg hp | exact hw2.iarg hd | assumption) (by assumption) (by first | omega | (simp; done) | (simp; omega)) (fun hb4_13 => ?_)
      refine l_nil ?_
      exact e_got rfl
    refine a_one (L' := [true, true, true, true, true, true, true, true, true, true, true, true, true, true, true, false, false, false, false, false]) 14 (by kernel_rfl) rfl rfl ?_
    refine l_call rfl rfl Try.func70 rfl rfl (.cons rfl (.cons rfl (.cons rfl .nil))) (div64 _ _ _ ⟨hb4_2.1, by omega⟩ hb4_7 hb4_12.2 (w.drew).drew) ?_
    rintro _ w3 ⟨rfl, hG⟩
    have hw3 := hG _ _ _ _ hw2
    try clear hG hw2
    simp only [List.cons_append, List.nil_append] at hw3
    refine l_nil ?_
    refine e_any (⟨hw3.iarg hp, hw3.iarg hd⟩) ?_
    apply a_take (L' := [true, true, true, true, true, true, true, true, true, true, true, true, true, true, true, true, false, false, false, false]) 15 rfl (by kernel_rfl) (by kernel_rfl) (by kernel_rfl) rfl rfl rfl rfl rfl (⟨hw3.iarg hp, hw3.iarg hd⟩)
    · intro wS sS
      refine l_move rfl rfl rfl ?_
      refine l_nil ?_
      exact e_got rfl
    apply a_take (L' := [true, true, true, true, true, true, true, true, true, true, true, true, true, true, true, true, true, false, false, false]) 16 rfl (by kernel_rfl) (by kernel_rfl) (by kernel_rfl) rfl rfl rfl rfl rfl (⟨hw3.iarg hp, hw3.iarg hd⟩)
    · intro wS sS
      refine l_extract rfl rfl rfl rfl ?_
      refine l_nil ?_
      exact e_got rfl
    apply a_take (L' := [true, true, true, true, true, true, true, true, true, true, true, true, true, true, true, true, true, true, false, false]) 17 rfl (by kernel_rfl) (by kernel_rfl) (by kernel_rfl) rfl rfl rfl rfl rfl (⟨hw3.iarg hp, hw3.iarg hd⟩)
    · intro wS sS
      refine l_extract rfl rfl rfl rfl ?_
      refine l_nil ?_
      exact e_got rfl
    apply a_take (L' := [true, true, true, true, true, true, true, true, true, true, true, true, true, true, true, true, true, true, true, false]) 18 rfl (by kernel_rfl) (by kernel_rfl) (by kernel_rfl) rfl rfl rfl rfl rfl (⟨hw3.iarg hp, hw3.iarg hd⟩)
    · intro wS sS
      refine l_assign rfl rfl rfl ?_
      refine l_nil ?_
      exact e_got rfl
    apply a_take (L' := [true, true, true, true, true, true, true, true, true, true, true, true, true, true, true, true, true, true, true, true]) 19 rfl (by kernel_rfl) (by kernel_rfl) (by kernel_rfl) rfl rfl rfl rfl rfl (⟨hw3.iarg hp, hw3.iarg hd⟩)
    · intro wS sS
      refine l_assign rfl rfl rfl ?_
      refine l_nil ?_
      exact e_got rfl
    refine a_done (by kernel_rfl) ?_
    refine e_then ?_
    refine c_keep [0, 1, 5, 6, 7] (.cons rfl (.cons rfl (.cons rfl (.cons rfl (.cons rfl .nil))))) ?_
    refine c_block ?_
    refine c_loopk (ι := Int × Int) (fun (z0 : Int × Int) => match z0 with | ⟨g, rs⟩ => g.toNat) (fun (z0 : Int × Int) (w' : World) => match z0 with | ⟨g, rs⟩ => St w w.heap.size None' ([]) w' ∧ 0 ≤ g ∧ g ≤ 18446744073709551615 ∧ 0 ≤ rs ∧ rs ≤ 18446744073709551615 ∧ g * dl.getD (dl.length - 1) 0 + rs = pl.getD dl.length 0 * 18446744073709551616 + pl.getD (dl.length - 1) 0 ∧ nv pl / nv dl ≤ g) (fun (z0 : Int × Int) => match z0 with | ⟨g, rs⟩ => [(6, .int .u64 g), (7, .int .u64 rs)]) [0, 1, 5] ((pl.getD dl.length 0 * 18446744073709551616 + pl.getD (dl.length - 1) 0) / dl.getD (dl.length - 1) 0, (pl.getD dl.length 0 * 18446744073709551616 + pl.getD (dl.length - 1) 0) % dl.getD (dl.length - 1) 0) ?_ (.cons rfl (.cons rfl (.cons rfl .nil))) ?_ ?_
    · have hgu := guess_up hUp hUd hpl hn hd1
      have hm0 := Int.emod_nonneg (pl.getD dl.length 0 * 18446744073709551616 + pl.getD (dl.length - 1) 0) (show dl.getD (dl.length - 1) 0 ≠ 0 by omega)
      have hm1 := Int.emod_lt_of_pos (pl.getD dl.length 0 * 18446744073709551616 + pl.getD (dl.length - 1) 0) hd1
      have hme := Int.emod_add_mul_ediv (pl.getD dl.length 0 * 18446744073709551616 + pl.getD (dl.length - 1) 0) (dl.getD (dl.length - 1) 0)
      rw [Int.mul_comm (dl.getD (dl.length - 1) 0)] at hme
      have hgl : (pl.getD dl.length 0 * 18446744073709551616 + pl.getD (dl.length - 1) 0) / dl.getD (dl.length - 1) 0 < 18446744073709551616 := Int.ediv_lt_of_lt_mul hd1 (by omega)
      exact ⟨hw3, by omega, by omega, hm0, by omega, by omega, hgu⟩
    · exact (.cons rfl (by first | rfl | (refine congrArg (Value.int _) ?_; omega)) (.cons rfl (by first | rfl | (refine congrArg (Value.int _) ?_; omega)) .nil))
    rintro ⟨g, rs⟩ w4 ⟨hw4, hg0, hg1, hr0, hr1, hgr, hqg⟩
    show RunC P _ _ _ (_ :: _) _
    refine c_block ?_
    refine c_seq ?_
    refine c_region ?_
    refine l_move rfl rfl rfl ?_
    refine l_move rfl rfl rfl ?_
    refine l_move rfl rfl rfl ?_
    refine l_sub rfl rfl rfl rfl (w_i64 (by omega)) ?_
    refine v_getr (j := dl.length - 2) rfl rfl rfl rfl Try.underlying66 tz22 Try.underlying22 rfl rfl (by first | exact hw4.iarg hp | exact hw4.iarg hd | assumption) (by assumption) rfl (by omega) (by first | omega | (simp; done) | (simp; omega)) (fun hb5_4 => ?_)
    refine l_callp rfl rfl Try.func75 rfl rfl (.cons rfl (.cons rfl .nil)) (mul64 _ _ ⟨hg0, hg1⟩ (by assumption) _) ?_
    refine l_move rfl rfl rfl ?_
    refine l_extract rfl rfl rfl rfl ?_
    refine l_extract rfl rfl rfl rfl ?_
    refine l_assign rfl rfl rfl ?_
    refine l_assign rfl rfl rfl ?_
    refine l_nil ?_
    refine e_then ?_
    refine c_keep [0, 1, 5, 6, 7, 8, 9] (.cons rfl (.cons rfl (.cons rfl (.cons rfl (.cons rfl (.cons rfl (.cons rfl .nil))))))) ?_
    refine c_seq ?_
    refine c_seq ?_
    refine c_region ?_
    refine l_move rfl rfl rfl ?_
    refine l_move rfl rfl rfl ?_
    refine l_lss rfl rfl rfl rfl ?_
    refine l_move rfl rfl rfl ?_
    apply l_or (q := g * dl.getD (dl.length - 2) 0 / 18446744073709551616 = rs ∧ g * dl.getD (dl.length - 2) 0 % 18446744073709551616 ≤ pl.getD (dl.length - 2) 0) 12 [0, 1, 5, 6, 7] rfl rfl (.cons rfl (.cons rfl (.cons rfl (.cons rfl (.cons rfl (.cons rfl .nil)))))) rfl rfl (fun _ => rfl) rfl rfl rfl
    · intro hg6_4
      refine l_move rfl rfl rfl ?_
      refine l_move rfl rfl rfl ?_
      refine l_eql rfl rfl rfl rfl ?_
      refine l_move rfl rfl rfl ?_
      apply l_and (q := g * dl.getD (dl.length - 2) 0 % 18446744073709551616 ≤ pl.getD (dl.length - 2) 0) 7 [0, 1, 5, 6, 7, 54] rfl rfl (.cons rfl (.cons rfl (.cons rfl (.cons rfl (.cons rfl (.cons rfl (.cons rfl .nil))))))) rfl rfl (fun _ => rfl) rfl rfl rfl
      · intro hg6_8
        refine l_move rfl rfl rfl ?_
        refine l_move rfl rfl rfl ?_
        refine l_move rfl rfl rfl ?_
        refine l_sub rfl rfl rfl rfl (w_i64 (by omega)) ?_
        refine v_getr (j := dl.length - 2) rfl rfl rfl rfl Try.underlying66 tz22 Try.underlying22 rfl rfl (by first | exact hw4.iarg hp | exact hw4.iarg hd | assumption) (by assumption) rfl (by omega) (by first | omega | (simp; done) | (simp; omega)) (fun hb6_12 => ?_)
        refine l_leq rfl rfl rfl rfl ?_
        refine l_nil ?_
        exact e_stays rfl (.cons rfl (congrArg Value.bool (decide_eq_true hg6_8).symm) (.cons rfl rfl (.cons rfl rfl (.cons rfl rfl (.cons rfl rfl (.cons rfl rfl (.cons rfl rfl .nil)))))))
        all_goals infer_instance
      refine l_nil ?_
      exact e_stays rfl (.cons rfl (congrArg Value.bool (decide_eq_false hg6_4).symm) (.cons rfl rfl (.cons rfl rfl (.cons rfl rfl (.cons rfl rfl (.cons rfl rfl .nil))))))
      all_goals infer_instance
    refine l_nil ?_
    refine e_then ?_
    refine c_keep [0, 1, 5, 6, 7, 67] (.cons rfl (.cons rfl (.cons rfl (.cons rfl (.cons rfl (.cons rfl .nil)))))) ?_
    first | refine c_cond rfl (fun hc1 => ?_) (fun hc1 => ?_) | refine c_condb rfl (fun hc1 => ?_) (fun hc1 => ?_)
    · skip
      refine c_seq ?_
      refine c_region ?_
      refine l_move rfl rfl rfl ?_
      refine l_assign rfl rfl rfl ?_
      refine l_nil ?_
      refine e_then ?_
      refine c_keep [4] (.cons rfl .nil) ?_
      refine c_ret ?_
      refine e_then_ret ?_
      refine e_blk_ret ?_
      refine e_then_ret ?_
      refine e_blk_ret ?_
      refine e_done1 Try.results87 rfl ?_
      refine ⟨_, rfl, ?_⟩
      exact ⟨_, rfl, hg0, hg1, hqg, hw4.grows⟩
    · skip
      refine c_skip ?_
      refine e_then ?_
      refine c_keep [0, 1, 5, 6, 7] (.cons rfl (.cons rfl (.cons rfl (.cons rfl (.cons rfl .nil))))) ?_
      refine c_seq ?_
      refine c_region ?_
      have hless := guess_dn hUp hUd hpl hn hd1 hgr hc1
      refine l_move rfl rfl rfl ?_
      refine l_sub rfl rfl rfl rfl (w_u64 (by omega)) ?_
      refine l_assign rfl rfl rfl ?_
      refine l_nil ?_
      refine e_then ?_
      refine c_keep [0, 1, 5, 6, 7] (.cons rfl (.cons rfl (.cons rfl (.cons rfl (.cons rfl .nil))))) ?_
      refine c_seq ?_
      refine c_region ?_
      refine l_assign rfl rfl rfl ?_
      refine l_nil ?_
      refine e_then ?_
      refine c_keep [0, 1, 5, 6, 7] (.cons rfl (.cons rfl (.cons rfl (.cons rfl (.cons rfl .nil))))) ?_
      refine c_seq ?_
      refine c_region ?_
      refine l_move rfl rfl rfl ?_
      refine l_move rfl rfl rfl ?_
      refine l_move rfl rfl rfl ?_
      refine l_sub rfl rfl rfl rfl (w_i64 (by omega)) ?_
      refine v_getr (j := dl.length - 1) rfl rfl rfl rfl Try.underlying66 tz22 Try.underlying22 rfl rfl (by first | exact hw4.iarg hp | exact hw4.iarg hd | assumption) (by assumption) rfl (by omega) (by first | omega | (simp; done) | (simp; omega)) (fun hb10_4 => ?_)
      refine l_extern rfl rfl Try.func76 rfl rfl rfl rfl (.cons rfl (.cons rfl (.cons rfl .nil))) (run_add64 _ _ _ hr0 hb10_4.1 (by omega) (by omega) _) ?_
      refine l_move rfl rfl rfl ?_
      refine l_extract rfl rfl rfl rfl ?_
      refine l_extract rfl rfl rfl rfl ?_
      refine l_assign rfl rfl rfl ?_
      refine l_assign rfl rfl rfl ?_
      refine l_nil ?_
      refine e_then ?_
      refine c_keep [0, 1, 5, 6, 7, 10] (.cons rfl (.cons rfl (.cons rfl (.cons rfl (.cons rfl (.cons rfl .nil)))))) ?_
      refine c_seq ?_
      refine c_region ?_
      refine l_move rfl rfl rfl ?_
      refine l_eql rfl rfl rfl rfl ?_
      refine l_nil ?_
      refine e_then ?_
      refine c_keep [0, 1, 5, 6, 7, 82] (.cons rfl (.cons rfl (.cons rfl (.cons rfl (.cons rfl (.cons rfl .nil)))))) ?_
      first | refine c_cond rfl (fun hc2 => ?_) (fun hc2 => ?_) | refine c_condb rfl (fun hc2 => ?_) (fun hc2 => ?_)
      · skip
        refine c_seq ?_
        refine c_region ?_
        refine l_move rfl rfl rfl ?_
        refine l_assign rfl rfl rfl ?_
        refine l_nil ?_
        refine e_then ?_
        refine c_keep [4] (.cons rfl .nil) ?_
        refine c_ret ?_
        refine e_blk_ret ?_
        refine e_then_ret ?_
        refine e_blk_ret ?_
        refine e_done1 Try.results87 rfl ?_
        refine ⟨_, rfl, ?_⟩
        exact ⟨_, rfl, by omega, by omega, by omega, hw4.grows⟩
      · skip
        refine c_skip ?_
        refine e_blk ?_
        refine e_againk (i := (g, rs)) (g - 1, rs + dl.getD (dl.length - 1) 0) ?_ ?_ (.cons rfl (.cons rfl (.cons rfl .nil))) ?_
        · first | omega | (simp; omega)
        · have hsub : (g - 1) * dl.getD (dl.length - 1) 0 = g * dl.getD (dl.length - 1) 0 - dl.getD (dl.length - 1) 0 := by rw [Int.sub_mul, Int.one_mul]
          exact ⟨hw4, by omega, by omega, by omega, by omega, by omega, by omega⟩
        · exact (.cons rfl (by first | rfl | (refine congrArg (Value.int _) ?_; omega)) (.cons rfl (by first | rfl | (refine congrArg (Value.int _) ?_; omega)) .nil))

/-- one place of a product taken off -/
theorem times_place {p V A x g d cy bo hi lo s1 c1 nw b : Int} (h : V = A + p * cy + p * bo) (h1 : hi * 18446744073709551616 + lo = d * g) (h2 : s1 + c1 * 18446744073709551616 = lo + cy) (h3 : nw = x - s1 - bo + 18446744073709551616 * b) :
    V + p * (nw - x) = A - p * (g * d) + p * 18446744073709551616 * (hi + c1) + p * 18446744073709551616 * b := by
  have e : nw - x = 18446744073709551616 * (hi + c1) + 18446744073709551616 * b - g * d - cy - bo := by rw [Int.mul_comm g d]; omega
  rw [e, h, Int.mul_sub, Int.mul_sub, Int.mul_sub, Int.mul_add, ← Int.mul_assoc, ← Int.mul_assoc]
  omega
theorem times_last {p V A x cy bo nw b : Int} (h : V = A + p * cy + p * bo) (h3 : nw = x - cy - bo + 18446744073709551616 * b) : V + p * (nw - x) = A + p * 18446744073709551616 * b := by
  have e : nw - x = 18446744073709551616 * b - cy - bo := by omega
  rw [e, h, Int.mul_sub, Int.mul_sub, ← Int.mul_assoc]
  omega
theorem more_place {p V A x y c : Int} (h : V = A - p * c) : V + p * ((x + y + c) % 18446744073709551616 - x) = A + p * y - p * 18446744073709551616 * ((x + y + c) / 18446744073709551616) := by
  have e : (x + y + c) % 18446744073709551616 - x = y + c - 18446744073709551616 * ((x + y + c) / 18446744073709551616) := by omega
  rw [e, h, Int.mul_sub, Int.mul_add, ← Int.mul_assoc]
  omega

theorem timesN (va vd : Value) (ad : Addr) (rl dl : List Int) (n c c' i : Nat) (hvE : va = .slice (some ad) n c) (hnE : n = rl.length) (hcvE : dl.length + 1 ≤ c') (hUr : U rl) (hUd : U dl) (hLr : rl.length ≤ 1099511627776) (hi : i + dl.length + 1 ≤ rl.length) (g : Int) (hg : 0 ≤ g ∧ g ≤ 18446744073709551615) (w : World) (hok : (As.ri 22 .u64 va rl).ok w) (hlt : ∀ k, (As.ri 22 .u64 va rl).fp k → k < w.heap.size) (hd : ∀ w1 : World, (∀ k, k < w.heap.size → ¬ (As.ri 22 .u64 va rl).fp k → w1.heap[k]? = w.heap[k]?) → IV w1 vd (ints .u64 dl)) :
    CallsV P 88 [.slice ((some ad).map (·.add i)) (dl.length + 1) c', vd, .int .u64 g] w fun r w' => ∃ ro b, r = .int .u64 b ∧ U ro ∧ ro.length = rl.length ∧ 0 ≤ b ∧ b ≤ 1 ∧ (∀ k, i + dl.length + 1 ≤ k → ro.getD k 0 = rl.getD k 0) ∧ nv ro = nv rl - 18446744073709551616 ^ i * (g * nv dl) + 18446744073709551616 ^ (i + dl.length + 1) * b ∧ Turn w w' (As.ri 22 .u64 va rl) (As.ri 22 .u64 va ro) := by
  refine enterW Try.func88 rfl Try.ntmps88 rfl ?_
  have hw0 := St.startM w hok hlt
  refine c_seq ?_
  refine c_region ?_
  refine l_assign rfl rfl rfl ?_
  refine l_nil ?_
  refine e_then ?_
  refine c_keep [0, 1, 2] (.cons rfl (.cons rfl (.cons rfl .nil))) ?_
  refine c_seq ?_
  refine c_region ?_
  refine l_assign rfl rfl rfl ?_
  refine l_assign rfl rfl rfl ?_
  refine l_nil ?_
  refine e_then ?_
  refine c_seq ?_
  refine c_seq ?_
  refine c_region ?_
  refine l_move rfl rfl rfl ?_
  refine v_leni rfl rfl Try.underlying66 rfl (by first | exact hw0.io mem0 | exact hw0.ikM hd | assumption) ?_
  refine l_move rfl rfl rfl ?_
  refine l_nil ?_
  refine e_then ?_
  refine c_keep [0, 1, 2, 7, 8, 14, 15] (.cons rfl (.cons rfl (.cons rfl (.cons rfl (.cons rfl (.cons rfl (.cons rfl .nil))))))) ?_
  refine c_block ?_
  refine c_loopk (ι := Nat × List Int × Int × Int) (fun (z0 : Nat × List Int × Int × Int) => match z0 with | ⟨j, o, cy, bo⟩ => dl.length - j) (fun (z0 : Nat × List Int × Int × Int) (w' : World) => match z0 with | ⟨j, o, cy, bo⟩ => St w w.heap.size (As.ri 22 .u64 va rl).fp ([As.ri 22 .u64 va o]) w' ∧ j ≤ dl.length ∧ o.length = rl.length ∧ U o ∧ 0 ≤ cy ∧ cy ≤ 18446744073709551615 ∧ 0 ≤ bo ∧ bo ≤ 1 ∧ (∀ k, i + j ≤ k → o.getD k 0 = rl.getD k 0) ∧ nv o = nv rl - 18446744073709551616 ^ i * (g * nv (dl.take j)) + 18446744073709551616 ^ (i + j) * cy + 18446744073709551616 ^ (i + j) * bo) (fun (z0 : Nat × List Int × Int × Int) => match z0 with | ⟨j, o, cy, bo⟩ => [(7, .int .u64 cy), (8, .int .u64 bo), (15, .int .i64 (j : Int))]) [0, 1, 2, 14] (0, rl, 0, 0) ?_ (.cons rfl (.cons rfl (.cons rfl (.cons rfl .nil)))) ?_ ?_
  · exact ⟨hw0, by omega, rfl, hUr, by omega, by omega, by omega, by omega, fun _ _ => rfl, by simp [Ma.vb]⟩
  · exact (.cons rfl (by first | rfl | (refine congrArg (Value.int _) ?_; omega)) (.cons rfl (by first | rfl | (refine congrArg (Value.int _) ?_; omega)) (.cons rfl (by first | rfl | (refine congrArg (Value.int _) ?_; omega)) .nil)))
  rintro ⟨j, o, cy, bo⟩ w1 ⟨hw1, hj, hol, hUo, hcy0, hcy1, hbo0, hbo1, hrest, hval⟩
  show RunC P _ _ _ (_ :: _) _
  refine c_seq ?_
  refine c_region ?_
  refine l_lss rfl rfl rfl rfl ?_
  refine l_nil ?_
  refine e_then ?_
  refine c_seq ?_
  first | refine c_cond rfl (fun hc0 => ?_) (fun hc0 => ?_) | refine c_condb rfl (fun hc0 => ?_) (fun hc0 => ?_)
  · skip
    refine c_skip ?_
    refine e_then ?_
    refine c_keep [0, 1, 2, 7, 8, 14, 15] (.cons rfl (.cons rfl (.cons rfl (.cons rfl (.cons rfl (.cons rfl (.cons rfl .nil))))))) ?_
    refine c_seq ?_
    refine c_block ?_
    refine c_seq ?_
    refine c_region ?_
    refine l_move rfl rfl rfl ?_
    refine l_assign rfl rfl rfl ?_
    refine l_nil ?_
    refine e_then ?_
    refine c_keep [0, 1, 2, 7, 8, 9, 14, 15] (.cons rfl (.cons rfl (.cons rfl (.cons rfl (.cons rfl (.cons rfl (.cons rfl (.cons rfl .nil)))))))) ?_
    refine c_seq ?_
    refine c_region ?_
    refine l_move rfl rfl rfl ?_
    refine l_move rfl rfl rfl ?_
    refine v_getr (j := j) rfl rfl rfl rfl Try.underlying66 tz22 Try.underlying22 rfl rfl (by first | exact hw1.io mem0 | exact hw1.ikM hd | assumption) (by assumption) rfl (by omega) (by first | omega | (simp; done) | (simp; omega)) (fun hb5_2 => ?_)
    refine l_move rfl rfl rfl ?_
    refine l_callp rfl rfl Try.func75 rfl rfl (.cons rfl (.cons rfl .nil)) (mul64 _ _ (by assumption) hg _) ?_
    refine l_move rfl rfl rfl ?_
    refine l_extract rfl rfl rfl rfl ?_
    refine l_extract rfl rfl rfl rfl ?_
    refine l_assign rfl rfl rfl ?_
    refine l_assign rfl rfl rfl ?_
    refine l_nil ?_
    refine e_then ?_
    refine c_keep [0, 1, 2, 7, 8, 9, 10, 11, 14, 15] (.cons rfl (.cons rfl (.cons rfl (.cons rfl (.cons rfl (.cons rfl (.cons rfl (.cons rfl (.cons rfl (.cons rfl .nil)))))))))) ?_
    refine c_seq ?_
    refine c_region ?_
    have e1 : dl.getD j 0 * g / 18446744073709551616 * 18446744073709551616 + dl.getD j 0 * g % 18446744073709551616 = dl.getD j 0 * g := by omega
    have hxy := mul_lt (a := dl.getD j 0) (b := g) (x := 18446744073709551616) (y := 18446744073709551616) (by omega) (by omega)
    have hlo : 0 ≤ dl.getD j 0 * g % 18446744073709551616 ∧ dl.getD j 0 * g % 18446744073709551616 ≤ 18446744073709551616 - 1 := by omega
    have hhi : 0 ≤ dl.getD j 0 * g / 18446744073709551616 ∧ dl.getD j 0 * g / 18446744073709551616 ≤ 18446744073709551616 - 2 := by omega
    generalize dl.getD j 0 * g / 18446744073709551616 = hi' at *
    generalize dl.getD j 0 * g % 18446744073709551616 = lo at *
    refine l_move rfl rfl rfl ?_
    refine l_move rfl rfl rfl ?_
    refine l_extern rfl rfl Try.func76 rfl rfl rfl rfl (.cons rfl (.cons rfl (.cons rfl .nil))) (run_add64 _ _ _ hlo.1 hcy0 (by omega) (by omega) _) ?_
    refine l_move rfl rfl rfl ?_
    refine l_extract rfl rfl rfl rfl ?_
    refine l_extract rfl rfl rfl rfl ?_
    refine l_assign rfl rfl rfl ?_
    refine l_assign rfl rfl rfl ?_
    refine l_nil ?_
    refine e_then ?_
    refine c_keep [0, 1, 2, 8, 9, 10, 11, 12, 14, 15] (.cons rfl (.cons rfl (.cons rfl (.cons rfl (.cons rfl (.cons rfl (.cons rfl (.cons rfl (.cons rfl (.cons rfl .nil)))))))))) ?_
    refine c_seq ?_
    refine c_region ?_
    have e2 : (lo + cy + 0) % 18446744073709551616 + (lo + cy + 0) / 18446744073709551616 * 18446744073709551616 = lo + cy := by omega
    have hs1 : 0 ≤ (lo + cy + 0) % 18446744073709551616 ∧ (lo + cy + 0) % 18446744073709551616 ≤ 18446744073709551615 := by omega
    have hcc1 : 0 ≤ (lo + cy + 0) / 18446744073709551616 ∧ (lo + cy + 0) / 18446744073709551616 ≤ 1 := by omega
    generalize (lo + cy + 0) % 18446744073709551616 = s1 at *
    generalize (lo + cy + 0) / 18446744073709551616 = c1 at *
    have hgo := getD_u hUo (i + j)
    have hbo := bor_01 (x := o.getD (i + j) 0) (y := s1 + bo)
    refine l_move rfl rfl rfl ?_
    refine l_move rfl rfl rfl ?_
    refine l_add rfl rfl rfl rfl (w_u64 (by omega)) ?_
    refine l_assign rfl rfl rfl ?_
    refine l_nil ?_
    refine e_then ?_
    refine c_keep [0, 1, 2, 7, 8, 9, 11, 14, 15] (.cons rfl (.cons rfl (.cons rfl (.cons rfl (.cons rfl (.cons rfl (.cons rfl (.cons rfl (.cons rfl .nil))))))))) ?_
    refine c_region ?_
    refine l_move rfl rfl rfl ?_
    refine l_move rfl rfl rfl ?_
    refine l_move rfl rfl rfl ?_
    refine l_move rfl rfl rfl ?_
    refine v_getw (j := j) (l := i) rfl rfl rfl rfl Try.underlying66 tz22 Try.underlying22 rfl rfl hvE (by first | exact hw1.io mem0 | exact hw1.ikM hd | assumption) (by first | omega | (simp; done) | (simp; omega)) hcvE (by assumption) rfl (by first | rfl | omega) (by omega) (fun hb8_4 => ?_)
    refine l_move rfl rfl rfl ?_
    refine l_move rfl rfl rfl ?_
    refine l_extern rfl rfl Try.func94 rfl rfl rfl rfl (.cons rfl (.cons rfl (.cons rfl .nil))) (run_sub64i hgo hs1 ⟨hbo0, hbo1⟩ _) ?_
    refine l_move rfl rfl rfl ?_
    refine l_extract rfl rfl rfl rfl ?_
    refine l_extract rfl rfl rfl rfl ?_
    refine v_addrw (j := j) (l := i) rfl rfl Try.underlying66 tz22 rfl rfl hvE (by first | exact hw1.io mem0 | exact hw1.ikM hd | assumption) (by first | omega | (simp; done) | (simp; omega)) (by first | rfl | omega) (by omega) ?_
    refine v_storeiw hw1 .head hvE (by first | rfl | omega | (simp; done) | (simp; omega)) rfl tz22 rfl rfl (by first | omega | (simp; done) | (simp; omega)) (fun w2 hw2 => ?_)
    try clear hw1
    refine l_assign rfl rfl rfl ?_
    refine l_nil ?_
    refine e_blk ?_
    refine e_then ?_
    refine c_keep [0, 1, 2, 7, 8, 14, 15] (.cons rfl (.cons rfl (.cons rfl (.cons rfl (.cons rfl (.cons rfl (.cons rfl .nil))))))) ?_
    refine c_region ?_
    refine l_add rfl rfl rfl rfl (w_i64 (by omega)) ?_
    refine l_move rfl rfl rfl ?_
    refine l_nil ?_
    refine e_againk (i := (j, o, cy, bo)) (j + 1, o.set (i + j) ((o.getD (i + j) 0 - s1 - bo) % 18446744073709551616), hi' + c1, if o.getD (i + j) 0 < s1 + bo then 1 else 0) ?_ ?_ (.cons rfl (.cons rfl (.cons rfl (.cons rfl .nil)))) ?_
    · first | omega | (simp; omega)
    · have h1 := Ma.vb_set_at 18446744073709551616 o (i + j) ((o.getD (i + j) 0 - s1 - bo) % 18446744073709551616) (by omega)
      have h2 := Ma.vb_take_succ 18446744073709551616 dl j
      have h3 := times_place (A := nv rl - 18446744073709551616 ^ i * (g * nv (dl.take j))) (p := 18446744073709551616 ^ (i + j)) hval e1 e2 (sub64_eq hgo hs1 ⟨hbo0, hbo1⟩)
      refine ⟨hw2, by omega, by simpa using hol, hUo.set (by omega) _, by omega, by omega, hbo.1, hbo.2, fun k hk => by rw [getD_set_ne _ (by omega)]; exact hrest k (by omega), ?_⟩
      show Ma.vb _ _ = nv rl - _ * (_ * Ma.vb _ _) + _ + _
      rw [h1, h2, ← Nat.add_assoc, Int.pow_succ, h3, Int.mul_add, Int.mul_add, Int.mul_add]
      have e : 18446744073709551616 ^ (i + j) * (g * dl.getD j 0) = 18446744073709551616 ^ i * (g * (18446744073709551616 ^ j * dl.getD j 0)) := by rw [Int.pow_add, Int.mul_assoc, Int.mul_left_comm g]
      have e0 : nv (dl.take j) = Ma.vb 18446744073709551616 (dl.take j) := rfl
      rw [e, e0]
      omega
    · exact (.cons rfl (by first | rfl | (refine congrArg (Value.int _) ?_; omega)) (.cons rfl (by first | rfl | (refine congrArg (Value.int _) ?_; omega)) (.cons rfl (by first | rfl | (refine congrArg (Value.int _) ?_; omega)) .nil)))
  · skip
    refine c_exit ?_
    refine e_then_exit ?_
    refine e_then_exit ?_
    refine e_blk_exit ?_
    refine e_then ?_
    refine c_keep [0, 1, 7, 8] (.cons rfl (.cons rfl (.cons rfl (.cons rfl .nil)))) ?_
    refine c_seq ?_
    refine c_region ?_
    obtain rfl : j = dl.length := by omega
    have hgo := getD_u hUo (i + dl.length)
    have hbo := bor_01 (x := o.getD (i + dl.length) 0) (y := cy + bo)
    refine l_move rfl rfl rfl ?_
    refine l_move rfl rfl rfl ?_
    refine v_leni rfl rfl Try.underlying66 rfl (by first | exact hw1.io mem0 | exact hw1.ikM hd | assumption) ?_
    refine l_move rfl rfl rfl ?_
    refine l_move rfl rfl rfl ?_
    refine v_leni rfl rfl Try.underlying66 rfl (by first | exact hw1.io mem0 | exact hw1.ikM hd | assumption) ?_
    refine v_getw (j := dl.length) (l := i) rfl rfl rfl rfl Try.underlying66 tz22 Try.underlying22 rfl rfl hvE (by first | exact hw1.io mem0 | exact hw1.ikM hd | assumption) (by first | omega | (simp; done) | (simp; omega)) hcvE (by assumption) rfl (by first | rfl | omega) (by omega) (fun hb10_6 => ?_)
    refine l_move rfl rfl rfl ?_
    refine l_move rfl rfl rfl ?_
    refine l_extern rfl rfl Try.func94 rfl rfl rfl rfl (.cons rfl (.cons rfl (.cons rfl .nil))) (run_sub64i hgo ⟨hcy0, hcy1⟩ ⟨hbo0, hbo1⟩ _) ?_
    refine l_move rfl rfl rfl ?_
    refine l_extract rfl rfl rfl rfl ?_
    refine l_extract rfl rfl rfl rfl ?_
    refine v_addrw (j := dl.length) (l := i) rfl rfl Try.underlying66 tz22 rfl rfl hvE (by first | exact hw1.io mem0 | exact hw1.ikM hd | assumption) (by first | omega | (simp; done) | (simp; omega)) (by first | rfl | omega) (by omega) ?_
    refine v_storeiw hw1 .head hvE (by first | rfl | omega | (simp; done) | (simp; omega)) rfl tz22 rfl rfl (by first | omega | (simp; done) | (simp; omega)) (fun w3 hw3 => ?_)
    try clear hw1
    refine l_assign rfl rfl rfl ?_
    refine l_nil ?_
    refine e_then ?_
    refine c_keep [8] (.cons rfl .nil) ?_
    refine c_seq ?_
    refine c_region ?_
    refine l_move rfl rfl rfl ?_
    refine l_assign rfl rfl rfl ?_
    refine l_nil ?_
    refine e_then ?_
    refine c_keep [6] (.cons rfl .nil) ?_
    refine c_ret ?_
    refine e_done1 Try.results88 rfl ?_
    refine ⟨_, rfl, ?_⟩
    rw [List.take_length] at hval
    have h1 := Ma.vb_set_at 18446744073709551616 o (i + dl.length) ((o.getD (i + dl.length) 0 - cy - bo) % 18446744073709551616) (by omega)
    have h3 := times_last (A := nv rl - 18446744073709551616 ^ i * (g * nv dl)) (p := 18446744073709551616 ^ (i + dl.length)) hval (sub64_eq hgo ⟨hcy0, hcy1⟩ ⟨hbo0, hbo1⟩)
    refine ⟨_, _, rfl, hUo.set (by omega) _, by simpa using hol, hbo.1, hbo.2, fun k hk => by rw [getD_set_ne _ (by omega)]; exact hrest k (by omega), ?_, hw3.turns (fun k hk => .inl hk)⟩
    show Ma.vb _ _ = _
    rw [h1, Int.pow_succ]
    exact h3
theorem moreN (va vd : Value) (ad : Addr) (rl dl : List Int) (n c c' i : Nat) (hvE : va = .slice (some ad) n c) (hnE : n = rl.length) (hcvE : dl.length + 1 ≤ c') (hUr : U rl) (hUd : U dl) (hLr : rl.length ≤ 1099511627776) (hi : i + dl.length + 1 ≤ rl.length) (w : World) (hok : (As.ri 22 .u64 va rl).ok w) (hlt : ∀ k, (As.ri 22 .u64 va rl).fp k → k < w.heap.size) (hd : ∀ w1 : World, (∀ k, k < w.heap.size → ¬ (As.ri 22 .u64 va rl).fp k → w1.heap[k]? = w.heap[k]?) → IV w1 vd (ints .u64 dl)) :
    CallsV P 89 [.slice ((some ad).map (·.add i)) (dl.length + 1) c', vd] w fun r w' => ∃ ro b, r = .int .u64 b ∧ U ro ∧ ro.length = rl.length ∧ 0 ≤ b ∧ b ≤ 1 ∧ (∀ k, i + dl.length + 1 ≤ k → ro.getD k 0 = rl.getD k 0) ∧ nv ro = nv rl + 18446744073709551616 ^ i * nv dl - 18446744073709551616 ^ (i + dl.length + 1) * b ∧ Turn w w' (As.ri 22 .u64 va rl) (As.ri 22 .u64 va ro) := by
  refine enterW Try.func89 rfl Try.ntmps89 rfl ?_
  have hw0 := St.startM w hok hlt
  refine c_seq ?_
  refine c_region ?_
  refine l_assign rfl rfl rfl ?_
  refine l_nil ?_
  refine e_then ?_
  refine c_keep [0, 1] (.cons rfl (.cons rfl .nil)) ?_
  refine c_seq ?_
  refine c_region ?_
  refine l_assign rfl rfl rfl ?_
  refine l_nil ?_
  refine e_then ?_
  refine c_seq ?_
  refine c_seq ?_
  refine c_region ?_
  refine l_move rfl rfl rfl ?_
  refine l_len rfl rfl Try.underlying66 rfl ?_
  refine l_move rfl rfl rfl ?_
  refine l_nil ?_
  refine e_then ?_
  refine c_keep [0, 1, 5, 8, 9] (.cons rfl (.cons rfl (.cons rfl (.cons rfl (.cons rfl .nil))))) ?_
  refine c_block ?_
  refine c_loopk (ι := Nat × List Int × Int) (fun (z0 : Nat × List Int × Int) => match z0 with | ⟨j, o, cy⟩ => dl.length + 1 - j) (fun (z0 : Nat × List Int × Int) (w' : World) => match z0 with | ⟨j, o, cy⟩ => St w w.heap.size (As.ri 22 .u64 va rl).fp ([As.ri 22 .u64 va o]) w' ∧ j ≤ dl.length + 1 ∧ o.length = rl.length ∧ U o ∧ 0 ≤ cy ∧ cy ≤ 1 ∧ (∀ k, i + j ≤ k → o.getD k 0 = rl.getD k 0) ∧ nv o = nv rl + 18446744073709551616 ^ i * nv (dl.take j) - 18446744073709551616 ^ (i + j) * cy) (fun (z0 : Nat × List Int × Int) => match z0 with | ⟨j, o, cy⟩ => [(5, .int .u64 cy), (9, .int .i64 (j : Int))]) [0, 1, 8] (0, rl, 0) ?_ (.cons rfl (.cons rfl (.cons rfl .nil))) ?_ ?_
  · exact ⟨hw0, by omega, rfl, hUr, by omega, by omega, fun _ _ => rfl, by simp [Ma.vb]⟩
  · exact (.cons rfl (by first | rfl | (refine congrArg (Value.int _) ?_; omega)) (.cons rfl (by first | rfl | (refine congrArg (Value.int _) ?_; omega)) .nil))
  rintro ⟨j, o, cy⟩ w1 ⟨hw1, hj, hol, hUo, hcy0, hcy1, hrest, hval⟩
  show RunC P _ _ _ (_ :: _) _
  refine c_seq ?_
  refine c_region ?_
  refine l_lss rfl rfl rfl rfl ?_
  refine l_nil ?_
  refine e_then ?_
  refine c_seq ?_
  first | refine c_cond rfl (fun hc0 => ?_) (fun hc0 => ?_) | refine c_condb rfl (fun hc0 => ?_) (fun hc0 => ?_)
  · skip
    refine c_skip ?_
    refine e_then ?_
    refine c_keep [0, 1, 5, 8, 9] (.cons rfl (.cons rfl (.cons rfl (.cons rfl (.cons rfl .nil))))) ?_
    refine c_seq ?_
    refine c_block ?_
    refine c_seq ?_
    refine c_region ?_
    refine l_move rfl rfl rfl ?_
    refine l_assign rfl rfl rfl ?_
    refine l_nil ?_
    refine e_then ?_
    refine c_keep [0, 1, 5, 6, 8, 9] (.cons rfl (.cons rfl (.cons rfl (.cons rfl (.cons rfl (.cons rfl .nil)))))) ?_
    have hw2 := hw1.drewn
    try clear hw1
    have hgo := getD_u hUo (i + j)
    have hgd := getD_u hUd j
    refine c_any (n := 17) [false, false, false, false, false, false, false, false, false, false, false, false, false, false, false, false, false] (fun wS => True) (by kernel_rfl) rfl rfl ?_
    apply a_take (L' := [true, false, false, false, false, false, false, false, false, false, false, false, false, false, false, false, false]) 0 rfl (by kernel_rfl) (by kernel_rfl) (by kernel_rfl) rfl rfl rfl rfl rfl (trivial)
    · intro wS sS
      refine l_move rfl rfl rfl ?_
      refine l_nil ?_
      exact e_got rfl
    apply a_take (L' := [true, true, false, false, false, false, false, false, false, false, false, false, false, false, false, false, false]) 1 rfl (by kernel_rfl) (by kernel_rfl) (by kernel_rfl) rfl rfl rfl rfl rfl (trivial)
    · intro wS sS
      refine l_move rfl rfl rfl ?_
      refine l_nil ?_
      exact e_got rfl
    apply a_take (L' := [true, true, true, false, false, false, false, false, false, false, false, false, false, false, false, false, false]) 2 rfl (by kernel_rfl) (by kernel_rfl) (by kernel_rfl) rfl rfl rfl rfl rfl (trivial)
    · intro wS sS
      refine l_move rfl rfl rfl ?_
      refine l_nil ?_
      exact e_got rfl
    apply a_take (L' := [true, true, true, true, false, false, false, false, false, false, false, false, false, false, false, false, false]) 3 rfl (by kernel_rfl) (by kernel_rfl) (by kernel_rfl) rfl rfl rfl rfl rfl (trivial)
    · intro wS sS
      refine l_move rfl rfl rfl ?_
      refine l_nil ?_
      exact e_got rfl
    apply a_take (L' := [true, true, true, true, true, false, false, false, false, false, false, false, false, false, false, false, false]) 4 rfl (by kernel_rfl) (by kernel_rfl) (by kernel_rfl) rfl rfl rfl rfl rfl (trivial)
    · intro wS sS
      refine v_addrxw (j := j) (l := i) rfl rfl Try.underlying66 tz22 rfl rfl (by first | rfl | omega) (by first | omega | (simp; done) | (simp; omega)) ?_
      refine l_nil ?_
      exact e_got rfl
    apply a_take (L' := [true, true, true, true, true, false, true, false, false, false, false, false, false, false, false, false, false]) 6 rfl (by kernel_rfl) (by kernel_rfl) (by kernel_rfl) rfl rfl rfl rfl rfl (trivial)
    · intro wS sS
      refine l_move rfl rfl rfl ?_
      refine l_nil ?_
      exact e_got rfl
    apply a_take (L' := [true, true, true, true, true, false, true, true, false, false, false, false, false, false, false, false, false]) 7 rfl (by kernel_rfl) (by kernel_rfl) (by kernel_rfl) rfl rfl rfl rfl rfl (trivial)
    · intro wS sS
      refine l_move rfl rfl rfl ?_
      refine l_nil ?_
      exact e_got rfl
    apply a_take (L' := [true, true, true, true, true, false, true, true, false, true, false, false, false, false, false, false, false]) 9 rfl (by kernel_rfl) (by kernel_rfl) (by kernel_rfl) rfl rfl rfl rfl rfl (trivial)
    · intro wS sS
      refine l_move rfl rfl rfl ?_
      refine l_nil ?_
      exact e_got rfl
    refine a_two (L' := [true, true, true, true, true, true, true, true, false, true, false, false, false, false, false, false, false]) (L'' := [true, true, true, true, true, false, true, true, true, true, false, false, false, false, false, false, false]) 5 8 (by kernel_rfl) rfl rfl rfl rfl ?_ ?_
    · skip
      refine v_loadi rfl rfl Try.underlying22 rfl hvE (by first | exact hw2.io mem0 | exact hw2.ikM hd | assumption) (by assumption) (by first | omega | (simp; done) | (simp; omega)) (fun hb5_5 => ?_)
      refine l_nil ?_
      refine e_any (trivial) ?_
      refine a_one (L' := [true, true, true, true, true, true, true, true, true, true, false, false, false, false, false, false, false]) 8 (by kernel_rfl) rfl rfl ?_
      refine l_callp rfl rfl Try.func95 rfl rfl (.cons rfl (.cons rfl .nil)) (atN vd dl hUd j w1.drew (hw2.ikM hd)) ?_
      refine l_nil ?_
      refine e_any (trivial) ?_
      refine a_one (L' := [true, true, true, true, true, true, true, true, true, true, true, false, false, false, false, false, false]) 10 (by kernel_rfl) rfl rfl ?_
      refine l_extern rfl rfl Try.func76 rfl rfl rfl rfl (.cons rfl (.cons rfl (.cons rfl .nil))) (run_add64 _ _ _ hgo.1 hgd.1 hcy0 hcy1 _) ?_
      refine l_nil ?_
      refine e_any (trivial) ?_
      apply a_take (L' := [true, true, true, true, true, true, true, true, true, true, true, true, false, false, false, false, false]) 11 rfl (by kernel_rfl) (by kernel_rfl) (by kernel_rfl) rfl rfl rfl rfl rfl (trivial)
      · intro wS sS
        refine l_move rfl rfl rfl ?_
        refine l_nil ?_
        exact e_got rfl
      apply a_take (L' := [true, true, true, true, true, true, true, true, true, true, true, true, true, false, false, false, false]) 12 rfl (by kernel_rfl) (by kernel_rfl) (by kernel_rfl) rfl rfl rfl rfl rfl (trivial)
      · intro wS sS
        refine l_extract rfl rfl rfl rfl ?_
        refine l_nil ?_
        exact e_got rfl
      apply a_take (L' := [true, true, true, true, true, true, true, true, true, true, true, true, true, true, false, false, false]) 13 rfl (by kernel_rfl) (by kernel_rfl) (by kernel_rfl) rfl rfl rfl rfl rfl (trivial)
      · intro wS sS
        refine l_extract rfl rfl rfl rfl ?_
        refine l_nil ?_
        exact e_got rfl
      apply a_take (L' := [true, true, true, true, true, true, true, true, true, true, true, true, true, true, true, false, false]) 14 rfl (by kernel_rfl) (by kernel_rfl) (by kernel_rfl) rfl rfl rfl rfl rfl (trivial)
      · intro wS sS
        refine v_addrxw (j := j) (l := i) rfl rfl Try.underlying66 tz22 rfl rfl (by first | rfl | omega) (by first | omega | (simp; done) | (simp; omega)) ?_
        refine l_nil ?_
        exact e_got rfl
      refine a_one (L' := [true, true, true, true, true, true, true, true, true, true, true, true, true, true, true, true, false]) 15 (by kernel_rfl) rfl rfl ?_
      refine v_storeiw hw2 .head hvE (by first | rfl | omega | (simp; done) | (simp; omega)) rfl tz22 rfl rfl (by first | omega | (simp; done) | (simp; omega)) (fun w3 hw3 => ?_)
      try clear hw2
      refine l_nil ?_
      refine e_any (trivial) ?_
      apply a_take (L' := [true, true, true, true, true, true, true, true, true, true, true, true, true, true, true, true, true]) 16 rfl (by kernel_rfl) (by kernel_rfl) (by kernel_rfl) rfl rfl rfl rfl rfl (trivial)
      · intro wS sS
        refine l_assign rfl rfl rfl ?_
        refine l_nil ?_
        exact e_got rfl
      refine a_done (by kernel_rfl) ?_
      refine e_blk ?_
      refine e_then ?_
      refine c_keep [0, 1, 5, 8, 9] (.cons rfl (.cons rfl (.cons rfl (.cons rfl (.cons rfl .nil))))) ?_
      refine c_region ?_
      refine l_add rfl rfl rfl rfl (w_i64 (by omega)) ?_
      refine l_move rfl rfl rfl ?_
      refine l_nil ?_
      refine e_againk (i := (j, o, cy)) (j + 1, o.set (i + j) ((o.getD (i + j) 0 + dl.getD j 0 + cy) % 18446744073709551616), (o.getD (i + j) 0 + dl.getD j 0 + cy) / 18446744073709551616) ?_ ?_ (.cons rfl (.cons rfl (.cons rfl .nil))) ?_
      · first | omega | (simp; omega)
      · have h1 := Ma.vb_set_at 18446744073709551616 o (i + j) ((o.getD (i + j) 0 + dl.getD j 0 + cy) % 18446744073709551616) (by omega)
        have h2 := Ma.vb_take_succ 18446744073709551616 dl j
        have h3 := more_place (A := nv rl + 18446744073709551616 ^ i * nv (dl.take j)) (p := 18446744073709551616 ^ (i + j)) (x := o.getD (i + j) 0) (y := dl.getD j 0) (c := cy) hval
        refine ⟨hw3, by omega, by simpa using hol, hUo.set (by omega) _, by omega, by omega, fun k hk => by rw [getD_set_ne _ (by omega)]; exact hrest k (by omega), ?_⟩
        show Ma.vb _ _ = nv rl + _ * Ma.vb _ _ - _
        rw [h1, h2, ← Nat.add_assoc, Int.pow_succ, h3, Int.mul_add]
        have e : 18446744073709551616 ^ (i + j) * dl.getD j 0 = 18446744073709551616 ^ i * (18446744073709551616 ^ j * dl.getD j 0) := by rw [Int.pow_add, Int.mul_assoc]
        have e0 : nv (dl.take j) = Ma.vb 18446744073709551616 (dl.take j) := rfl
        rw [e, e0]
        omega
      · exact (.cons rfl (by first | rfl | (refine congrArg (Value.int _) ?_; omega)) (.cons rfl (by first | rfl | (refine congrArg (Value.int _) ?_; omega)) .nil))
    · skip
      refine l_callp rfl rfl Try.func95 rfl rfl (.cons rfl (.cons rfl .nil)) (atN vd dl hUd j w1.drew (hw2.ikM hd)) ?_
      refine l_nil ?_
      refine e_any (trivial) ?_
      refine a_one (L' := [true, true, true, true, true, true, true, true, true, true, false, false, false, false, false, false, false]) 5 (by kernel_rfl) rfl rfl ?_
      refine v_loadi rfl rfl Try.underlying22 rfl hvE (by first | exact hw2.io mem0 | exact hw2.ikM hd | assumption) (by assumption) (by first | omega | (simp; done) | (simp; omega)) (fun hb5_5 => ?_)
      refine l_nil ?_
      refine e_any (trivial) ?_
      refine a_one (L' := [true, true, true, true, true, true, true, true, true, true, true, false, false, false, false, false, false]) 10 (by kernel_rfl) rfl rfl ?_
      refine l_extern rfl rfl Try.func76 rfl rfl rfl rfl (.cons rfl (.cons rfl (.cons rfl .nil))) (run_add64 _ _ _ hgo.1 hgd.1 hcy0 hcy1 _) ?_
      refine l_nil ?_
      refine e_any (trivial) ?_
      apply a_take (L' := [true, true, true, true, true, true, true, true, true, true, true, true, false, false, false, false, false]) 11 rfl (by kernel_rfl) (by kernel_rfl) (by kernel_rfl) rfl rfl rfl rfl rfl (trivial)
      · intro wS sS
        refine l_move rfl rfl rfl ?_
        refine l_nil ?_
        exact e_got rfl
      apply a_take (L' := [true, true, true, true, true, true, true, true, true, true, true, true, true, false, false, false, false]) 12 rfl (by kernel_rfl) (by kernel_rfl) (by kernel_rfl) rfl rfl rfl rfl rfl (trivial)
      · intro wS sS
        refine l_extract rfl rfl rfl rfl ?_
        refine l_nil ?_
        exact e_got rfl
      apply a_take (L' := [true, true, true, true, true, true, true, true, true, true, true, true, true, true, false, false, false]) 13 rfl (by kernel_rfl) (by kernel_rfl) (by kernel_rfl) rfl rfl rfl rfl rfl (trivial)
      · intro wS sS
        refine l_extract rfl rfl rfl rfl ?_
        refine l_nil ?_
        exact e_got rfl
      apply a_take (L' := [true, true, true, true, true, true, true, true, true, true, true, true, true, true, true, false, false]) 14 rfl (by kernel_rfl) (by kernel_rfl) (by kernel_rfl) rfl rfl rfl rfl rfl (trivial)
      · intro wS sS
        refine v_addrxw (j := j) (l := i) rfl rfl Try.underlying66 tz22 rfl rfl (by first | rfl | omega) (by first | omega | (simp; done) | (simp; omega)) ?_
        refine l_nil ?_
        exact e_got rfl
      refine a_one (L' := [true, true, true, true, true, true, true, true, true, true, true, true, true, true, true, true, false]) 15 (by kernel_rfl) rfl rfl ?_
      refine v_storeiw hw2 .head hvE (by first | rfl | omega | (simp; done) | (simp; omega)) rfl tz22 rfl rfl (by first | omega | (simp; done) | (simp; omega)) (fun w4 hw4 => ?_)
      try clear hw2
      refine l_nil ?_
      refine e_any (trivial) ?_
      apply a_take (L' := [true, true, true, true, true, true, true, true, true, true, true, true, true, true, true, true, true]) 16 rfl (by kernel_rfl) (by kernel_rfl) (by kernel_rfl) rfl rfl rfl rfl rfl (trivial)
      · intro wS sS
        refine l_assign rfl rfl rfl ?_
        refine l_nil ?_
        exact e_got rfl
      refine a_done (by kernel_rfl) ?_
      refine e_blk ?_
      refine e_then ?_
      refine c_keep [0, 1, 5, 8, 9] (.cons rfl (.cons rfl (.cons rfl (.cons rfl (.cons rfl .nil))))) ?_
      refine c_region ?_
      refine l_add rfl rfl rfl rfl (w_i64 (by omega)) ?_
      refine l_move rfl rfl rfl ?_
      refine l_nil ?_
      refine e_againk (i := (j, o, cy)) (j + 1, o.set (i + j) ((o.getD (i + j) 0 + dl.getD j 0 + cy) % 18446744073709551616), (o.getD (i + j) 0 + dl.getD j 0 + cy) / 18446744073709551616) ?_ ?_ (.cons rfl (.cons rfl (.cons rfl .nil))) ?_
      · first | omega | (simp; omega)
      · have h1 := Ma.vb_set_at 18446744073709551616 o (i + j) ((o.getD (i + j) 0 + dl.getD j 0 + cy) % 18446744073709551616) (by omega)
        have h2 := Ma.vb_take_succ 18446744073709551616 dl j
        have h3 := more_place (A := nv rl + 18446744073709551616 ^ i * nv (dl.take j)) (p := 18446744073709551616 ^ (i + j)) (x := o.getD (i + j) 0) (y := dl.getD j 0) (c := cy) hval
        refine ⟨hw4, by omega, by simpa using hol, hUo.set (by omega) _, by omega, by omega, fun k hk => by rw [getD_set_ne _ (by omega)]; exact hrest k (by omega), ?_⟩
        show Ma.vb _ _ = nv rl + _ * Ma.vb _ _ - _
        rw [h1, h2, ← Nat.add_assoc, Int.pow_succ, h3, Int.mul_add]
        have e : 18446744073709551616 ^ (i + j) * dl.getD j 0 = 18446744073709551616 ^ i * (18446744073709551616 ^ j * dl.getD j 0) := by rw [Int.pow_add, Int.mul_assoc]
        have e0 : nv (dl.take j) = Ma.vb 18446744073709551616 (dl.take j) := rfl
        rw [e, e0]
        omega
      · exact (.cons rfl (by first | rfl | (refine congrArg (Value.int _) ?_; omega)) (.cons rfl (by first | rfl | (refine congrArg (Value.int _) ?_; omega)) .nil))
  · skip
    refine c_exit ?_
    refine e_then_exit ?_
    refine e_then_exit ?_
    refine e_blk_exit ?_
    refine e_then ?_
    refine c_keep [5] (.cons rfl .nil) ?_
    refine c_seq ?_
    refine c_region ?_
    refine l_move rfl rfl rfl ?_
    refine l_assign rfl rfl rfl ?_
    refine l_nil ?_
    refine e_then ?_
    refine c_keep [4] (.cons rfl .nil) ?_
    refine c_ret ?_
    refine e_done1 Try.results89 rfl ?_
    refine ⟨_, rfl, ?_⟩
    obtain rfl : j = dl.length + 1 := by omega
    rw [List.take_of_length_le (by omega)] at hval
    exact ⟨_, _, rfl, hUo, hol, hcy0, hcy1, hrest, hval, hw1.turns (fun k hk => .inl hk)⟩
end Go.Proofs.Ytmcbdgpcbcldjaa.W
