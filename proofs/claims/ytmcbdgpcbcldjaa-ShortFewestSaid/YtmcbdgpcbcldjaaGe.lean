/- walks of twice, ratio, Round, Join -/
import Derived.Test.YtmcbdgpcbcldjaaGd
set_option linter.unusedVariables false
set_option linter.unusedSimpArgs false
set_option maxRecDepth 10000
namespace Go.Proofs.Ytmcbdgpcbcldjaa.W
open Go.Vc Go.RowKit

theorem or_one {x b : Int} (hb : 0 ≤ b ∧ b ≤ 1) : bitw .or .u64 b (x * 2 % 18446744073709551616) = b + x * 2 % 18446744073709551616 := by
  have h1 := or_low (x := x) (b := b) (k := 1) (by omega) ⟨hb.1, by show b < 2; omega⟩
  rw [← shl_low (by omega)] at h1
  exact h1
theorem or_1 {m : Int} (hm : 0 ≤ m ∧ m ≤ 9223372036854775807) : bitw .or .u64 (m * 2) 1 = m * 2 + 1 := or_add (a := m) (b := 1) 1 (by omega) ⟨hm.1, by show m * 2 ≤ _; omega⟩ ⟨by omega, by decide⟩
theorem lenV {v : Value} {l : List Int} (hU : U l) (hL : l.length ≤ 17592186044416) {w : World} (hv : IV w v (ints .u64 l)) : CallsV P 56 [v] w fun r w' => r = .int .i64 (Ma.blen (nv l)) ∧ w = w' := by
  obtain ⟨A, c, rfl, hc, hs⟩ := hv
  exact lenN A c l hU hL w ⟨A, c, rfl, hc, hs⟩
theorem twice_step {p V A x o : Int} (h : V = 2 * A) : V + p * ((o + x * 2 % 18446744073709551616) - o) + p * 18446744073709551616 * (x / 9223372036854775808) = 2 * (A + p * x) := by
  have e : x * 2 % 18446744073709551616 + 18446744073709551616 * (x / 9223372036854775808) = 2 * x := by omega
  rw [show o + x * 2 % 18446744073709551616 - o = x * 2 % 18446744073709551616 from by omega, Int.mul_assoc p, Int.add_assoc, ← Int.mul_add, e, h, Int.mul_add, Int.mul_left_comm]
theorem cn_len64 {l : List Int} {n : Int} (h : Ma.Cn 18446744073709551616 l n) {k : Nat} (hb : Ma.blen n ≤ k) : 64 * l.length ≤ k + 64 := by
  rcases Nat.eq_zero_or_pos l.length with h0 | h0
  · omega
  · have := Ma.blen_top (s := 64) h.dg h.tr h0
    rw [show ((2 : Int) ^ 64) = 18446744073709551616 from rfl, h.val] at this
    have := Ma.blen_nonneg (l.getD (l.length - 1) 0)
    omega

theorem twiceB (v : Value) (l : List Int) (hU : U l) (hL : l.length ≤ 17592186044416) (w : World) (hv : IV w v (ints .u64 l)) :
    CallsV P 92 [v] w fun r w' => ∃ v ls, r = v ∧ U ls ∧ ls.length = l.length + 1 ∧ nv ls = 2 * nv l ∧ Grow w w' [As.ri 22 .u64 v ls] := by
  refine enterW Try.func92 rfl Try.ntmps92 rfl ?_
  have hw0 := St.start w
  refine c_seq ?_
  refine c_region ?_
  refine l_assign rfl rfl rfl ?_
  refine l_nil ?_
  refine e_then ?_
  refine c_keep [0] (.cons rfl .nil) ?_
  refine c_seq ?_
  refine c_region ?_
  refine l_move rfl rfl rfl ?_
  refine v_leni rfl rfl Try.underlying66 rfl (by first | exact hw0.iarg hv | assumption) ?_
  refine l_add rfl rfl rfl rfl (w_i64 (by omega)) ?_
  refine v_make (m := l.length + 1) (c := l.length + 1) hw0 rfl rfl Try.underlying66 ti22 rfl rfl rfl (by omega) (by omega) (by omega) (by omega) (by omega) (fun v1_3 w1 hw1 => ?_)
  try clear hw0
  refine l_assign rfl rfl rfl ?_
  refine l_nil ?_
  refine e_then ?_
  refine c_keep [0, 3] (.cons rfl (.cons rfl .nil)) ?_
  refine c_seq ?_
  refine c_seq ?_
  refine c_region ?_
  have hw2z := hw1.cast (show [As.ro 22 v1_3 (List.replicate (l.length + 1) (Value.int IntKind.u64 0))] = [As.ri 22 .u64 v1_3 (List.replicate (l.length + 1) 0)] from by rw [ints_replicate])
  refine l_move rfl rfl rfl ?_
  refine v_leni rfl rfl Try.underlying66 rfl (by first | exact hw1.io mem0 | exact hw1.iarg hv | assumption) ?_
  refine l_move rfl rfl rfl ?_
  refine l_nil ?_
  refine e_then ?_
  refine c_keep [3, 10, 11, 12] (.cons rfl (.cons rfl (.cons rfl (.cons rfl .nil)))) ?_
  refine c_block ?_
  refine c_loopk (ι := Nat × List Int) (fun (z0 : Nat × List Int) => match z0 with | ⟨i, o⟩ => l.length - i) (fun (z0 : Nat × List Int) (w' : World) => match z0 with | ⟨i, o⟩ => St w w.heap.size None' ([As.ri 22 .u64 v1_3 o]) w' ∧ i ≤ l.length ∧ o.length = l.length + 1 ∧ U o ∧ nv o = 2 * nv (l.take i) ∧ 0 ≤ o.getD i 0 ∧ o.getD i 0 ≤ 1 ∧ (∀ j, i < j → o.getD j 0 = 0)) (fun (z0 : Nat × List Int) => match z0 with | ⟨i, o⟩ => [(12, .int .i64 (i : Int))]) [3, 10, 11] (0, List.replicate (l.length + 1) 0) ?_ (.cons rfl (.cons rfl (.cons rfl .nil))) ?_ ?_
  · exact ⟨hw2z, by omega, by simp, U.zeros _, by rw [List.take_zero]; show Ma.vb _ _ = 2 * Ma.vb _ _; rw [Ma.vb_zeros]; rfl, by rw [getD_rep]; omega, by rw [getD_rep]; omega, fun j _ => getD_rep _ j⟩
  · exact (.cons rfl (by first | rfl | (refine congrArg (Value.int _) ?_; omega)) .nil)
  rintro ⟨i, o⟩ w2 ⟨hw2, hi, hol, hUo, hval, hoi, hoi1, hoz⟩
  show RunC P _ _ _ (_ :: _) _
  refine c_seq ?_
  refine c_region ?_
  refine l_lss rfl rfl rfl rfl ?_
  refine l_nil ?_
  refine e_then ?_
  refine c_seq ?_
  first | refine c_cond rfl (fun hc0 => ?_) (fun hc0 => ?_) | refine c_condb rfl (fun hc0 => ?_) (fun hc0 => ?_)
  · skip
    refine c_skip ?_
    refine e_then ?_
    refine c_keep [3, 10, 11, 12] (.cons rfl (.cons rfl (.cons rfl (.cons rfl .nil)))) ?_
    refine c_seq ?_
    refine c_block ?_
    refine c_seq ?_
    refine c_region ?_
    refine l_move rfl rfl rfl ?_
    refine v_getr (j := i) rfl rfl rfl rfl Try.underlying66 tz22 Try.underlying22 rfl rfl (by first | exact hw2.io mem0 | exact hw2.iarg hv | assumption) (by assumption) rfl (by omega) (by first | omega | (simp; done) | (simp; omega)) (fun hb4_1 => ?_)
    refine l_assign rfl rfl rfl ?_
    refine l_assign rfl rfl rfl ?_
    refine l_nil ?_
    refine e_then ?_
    refine c_keep [3, 4, 5, 10, 11, 12] (.cons rfl (.cons rfl (.cons rfl (.cons rfl (.cons rfl (.cons rfl .nil)))))) ?_
    refine c_seq ?_
    refine c_region ?_
    refine l_move rfl rfl rfl ?_
    refine l_move rfl rfl rfl ?_
    refine v_getr (j := i) rfl rfl rfl rfl Try.underlying66 tz22 Try.underlying22 rfl rfl (by first | exact hw2.io mem0 | exact hw2.iarg hv | assumption) (by assumption) rfl (by omega) (by first | omega | (simp; done) | (simp; omega)) (fun hb5_2 => ?_)
    refine l_move rfl rfl rfl ?_
    refine l_shl rfl rfl rfl rfl (by omega) (shl_eq (d := 2) (by decide) (w_u64m _)) ?_
    refine l_bits rfl rfl rfl rfl rfl (or_one ⟨hoi, hoi1⟩) ?_
    refine v_addrn (j := i) rfl rfl Try.underlying66 tz22 rfl rfl (by first | exact hw2.io mem0 | exact hw2.iarg hv | assumption) (by omega) (by first | omega | (simp; done) | (simp; omega)) (fun A5_7 c5_7 hA5_7 => ?_)
    refine v_storei hw2 .head hA5_7 rfl tz22 rfl rfl (by first | omega | (simp; done) | (simp; omega)) (fun w3 hw3 => ?_)
    try clear hw2
    refine l_nil ?_
    refine e_then ?_
    refine c_keep [3, 4, 5, 10, 11, 12] (.cons rfl (.cons rfl (.cons rfl (.cons rfl (.cons rfl (.cons rfl .nil)))))) ?_
    refine c_region ?_
    refine l_move rfl rfl rfl ?_
    refine l_move rfl rfl rfl ?_
    refine l_add rfl rfl rfl rfl (w_i64 (by omega)) ?_
    refine l_move rfl rfl rfl ?_
    refine l_shr rfl rfl rfl rfl (by omega) (shr_eq (d := 9223372036854775808) (by decide) (by decide)) ?_
    refine v_addrn (j := i + 1) rfl rfl Try.underlying66 tz22 rfl rfl (by first | exact hw3.io mem0 | exact hw3.iarg hv | assumption) (by omega) (by first | omega | (simp; done) | (simp; omega)) (fun A6_5 c6_5 hA6_5 => ?_)
    refine v_storei hw3 .head hA6_5 rfl tz22 rfl rfl (by first | omega | (simp; done) | (simp; omega)) (fun w4 hw4 => ?_)
    try clear hw3
    refine l_nil ?_
    refine e_blk ?_
    refine e_then ?_
    refine c_keep [3, 10, 11, 12] (.cons rfl (.cons rfl (.cons rfl (.cons rfl .nil)))) ?_
    refine c_region ?_
    refine l_add rfl rfl rfl rfl (w_i64 (by omega)) ?_
    refine l_move rfl rfl rfl ?_
    refine l_nil ?_
    refine e_againk (i := (i, o)) (i + 1, (o.set i (o.getD i 0 + l.getD i 0 * 2 % 18446744073709551616)).set (i + 1) (l.getD i 0 / 9223372036854775808)) ?_ ?_ (.cons rfl (.cons rfl (.cons rfl .nil))) ?_
    · first | omega | (simp; omega)
    · have hgx := getD_u hU i
      have hst := set_top (l := o) 0 i (o.getD i 0 + l.getD i 0 * 2 % 18446744073709551616) (l.getD i 0 / 9223372036854775808) (by omega) (by rw [Nat.zero_add]; exact hoz _ (by omega))
      rw [Nat.zero_add] at hst
      refine ⟨hw4, by omega, by simpa using hol, (hUo.set (by omega) _).set (by omega) _, ?_, ?_, ?_, fun j hj => ?_⟩
      · rw [hst, show nv (l.take (i + 1)) = nv (l.take i) + 18446744073709551616 ^ i * l.getD i 0 from Ma.vb_take_succ _ _ _]
        exact twice_step hval
      · rw [getD_set _ _ _ _ _ (by simp; omega), if_pos rfl]; omega
      · rw [getD_set _ _ _ _ _ (by simp; omega), if_pos rfl]; omega
      · rw [getD_set_ne _ (by omega), getD_set_ne _ (by omega)]; exact hoz j (by omega)
    · exact (.cons rfl (by first | rfl | (refine congrArg (Value.int _) ?_; omega)) .nil)
  · skip
    refine c_exit ?_
    refine e_then_exit ?_
    refine e_then_exit ?_
    refine e_blk_exit ?_
    refine e_then ?_
    refine c_keep [3] (.cons rfl .nil) ?_
    refine c_seq ?_
    refine c_region ?_
    refine l_move rfl rfl rfl ?_
    refine l_assign rfl rfl rfl ?_
    refine l_nil ?_
    refine e_then ?_
    refine c_keep [2] (.cons rfl .nil) ?_
    refine c_ret ?_
    refine e_done1 Try.results92 rfl ?_
    refine ⟨_, rfl, ?_⟩
    obtain rfl : i = l.length := by omega
    rw [List.take_length] at hval
    exact ⟨_, _, rfl, hUo, hol, hval, hw2.grows⟩

theorem RndR.zero {H G D : Int} (hH : 1 < H) (hG : 0 < G) (hGo : G % 2 = 1) (hD : 0 < D) : RndR H G 0 D (0, true, 0) := by
  have e0 := fv_zero (H := H) (by omega)
  have e1 : fv H (0 + 1) = 1 := by unfold fv; rw [if_pos (by omega)]; rfl
  have hu : ¬ upR H 0 D 0 := by unfold upR; rw [e0, e1]; omega
  have := RndR.of (H := H) (G := G) (N := 0) (D := D) (b0 := 0) (by omega) hD (by omega) hGo (by omega) (by rw [e0]; omega) (by rw [e1]; omega)
  rw [if_neg hu, if_pos (by omega), e0, decide_eq_true (by omega)] at this
  exact this
theorem RndR.bd {H G N D : Int} {t : Int × Bool × Int} (hG : 0 ≤ G) (h : RndR H G N D t) : 0 ≤ t.1 ∧ t.1 ≤ G + 1 ∧ (t.2.2 = 0 ∨ t.2.2 = 34) := by
  rcases h with ⟨_, rfl⟩ | ⟨_, b0, h0, h1, _, _, rfl⟩
  · exact ⟨by decide, by show (0 : Int) ≤ G + 1; omega, .inr rfl⟩
  · by_cases hu : upR H N D b0
    · rw [if_pos hu]; exact ⟨by show 0 ≤ b0 + 1; omega, by show b0 + 1 ≤ G + 1; omega, .inl rfl⟩
    · rw [if_neg hu]; exact ⟨h0, by show b0 ≤ G + 1; omega, .inl rfl⟩
def sgR (d : Kd) (neg : Bool) (t : Int × Bool × Int) : Int × Bool × Int := if t.2.2 = 0 then (if neg then t.1 + d.S else t.1, t.2.1, 0) else (0, false, t.2.2)
def RoundR (k : Int) (neg : Bool) (x y : Int) (r : Int × Bool × Int) : Prop := match kd k with
  | none => r = (0, false, 30)
  | some d => if 8192 < Ma.blen x ∨ 8192 < Ma.blen y then r = (0, false, 21) else if y = 0 then r = (0, false, 33) else ∃ t, RndR d.H (d.I - 1) (x * 2 ^ d.l) y t ∧ r = sgR d neg t
theorem RoundR.unique {k : Int} {neg : Bool} {x y : Int} {r s : Int × Bool × Int} (hy : 0 ≤ y) (h : RoundR k neg x y r) (g : RoundR k neg x y s) : r = s := by
  unfold RoundR at h g
  cases hk : kd k with
  | none => simp only [hk] at h g; rw [h, g]
  | some d =>
    simp only [hk] at h g
    by_cases h1 : 8192 < Ma.blen x ∨ 8192 < Ma.blen y
    · rw [if_pos h1] at h g; rw [h, g]
    · rw [if_neg h1] at h g
      by_cases h2 : y = 0
      · rw [if_pos h2] at h g; rw [h, g]
      · rw [if_neg h2] at h g
        obtain ⟨t, ht, rfl⟩ := h
        obtain ⟨u, hu, rfl⟩ := g
        rw [ht.unique d.hH0 (by omega) hu]
def JoinR (k : Int) (neg : Bool) (man exp : Int) (r : Int × Bool × Int) : Prop := match kd k with
  | none => r = (0, false, 30)
  | some d => ∃ t, RndR d.H (d.I - 1) (man * 2 ^ (max (min exp 2000) (-2000)).toNat * 2 ^ d.l) (2 ^ (-(max (min exp 2000) (-2000))).toNat) t ∧ r = sgR d neg t
theorem JoinR.unique {k : Int} {neg : Bool} {m e : Int} {r s : Int × Bool × Int} (h : JoinR k neg m e r) (g : JoinR k neg m e s) : r = s := by
  unfold JoinR at h g
  cases hk : kd k with
  | none => simp only [hk] at h g; rw [h, g]
  | some d =>
    simp only [hk] at h g
    obtain ⟨t, ht, rfl⟩ := h
    obtain ⟨u, hu, rfl⟩ := g
    rw [ht.unique d.hH0 (p2 _) hu]
theorem shlS_ok {x n : Int} (hx : Ma.blen x ≤ 8192) (hn : 0 ≤ n) (h : Ma.blen x + n ≤ 8192) : shlS x n = (0, x * 2 ^ n.toNat) := by
  unfold shlS
  rw [if_neg (by omega), if_neg (by omega)]
  split
  · rename_i h0; rw [h0, Int.zero_mul]
  · rw [if_neg (by omega)]
/-- what ratio's rounds end with -/
theorem ratio_end {n0 dn man n : Int} (hd : 0 < dn) (h : n0 * 18446744073709551616 = man * (2 * dn) + n) (hn : 0 ≤ n ∧ n < 2 * dn) (h2 : dn < 2 * n0) : (n0 * 2 ^ 63 = man * dn + n / 2) ∧ 0 ≤ n / 2 ∧ n / 2 < dn ∧ (0 < n ↔ 0 < n / 2) ∧ 2 ^ 62 ≤ man := by
  rw [show (2 : Int) ^ 63 = 9223372036854775808 by rfl, show (2 : Int) ^ 62 = 4611686018427387904 by rfl]
  have e : man * (2 * dn) = 2 * (man * dn) := Int.mul_left_comm ..
  rw [e] at h
  refine ⟨by omega, by omega, by omega, by omega, ?_⟩
  have h3 : dn * 4611686018427387904 < (man + 1) * dn := by rw [Int.add_mul]; omega
  rw [Int.mul_comm dn] at h3
  have := Int.lt_of_mul_lt_mul_right h3 (Int.le_of_lt hd)
  omega
theorem ratio_step0 {n0 dn man n : Int} {i : Nat} (h : n0 * 2 ^ i = man * (2 * dn) + n) : n0 * 2 ^ (i + 1) = man * 2 * (2 * dn) + 2 * n := by
  rw [Int.pow_succ, ← Int.mul_assoc, h, Int.add_mul, Int.mul_right_comm man, Int.mul_comm n]
theorem ratio_step1 {n0 dn man n : Int} {i : Nat} (h : n0 * 2 ^ i = man * (2 * dn) + n) : n0 * 2 ^ (i + 1) = (man * 2 + 1) * (2 * dn) + 2 * (n - dn) := by
  rw [ratio_step0 h, Int.add_mul (man * 2), Int.one_mul]; omega

theorem ratioB (va vb : Value) (la lb : List Int) (hUa : U la) (hUb : U lb) (hLa : la.length ≤ 68719476736) (hLb : lb.length ≤ 68719476736) (ha0 : 0 < nv la) (hb0 : 0 < nv lb) (hba : Ma.blen (nv la) ≤ 8192) (hbb : Ma.blen (nv lb) ≤ 8192) (w : World) (ha : IV w va (ints .u64 la)) (hb : IV w vb (ints .u64 lb)) :
    CallsV P 79 [va, vb] w fun r w' => ∃ man exp some, r = .tuple #[.int .u64 man, .int .i64 exp, .bool some] ∧ (0 ≤ man ∧ man ≤ 18446744073709551615) ∧ (-20000 ≤ exp ∧ exp ≤ 20000) ∧ (∀ d : Kd, RndR d.H (d.I - 1) (nv la * 2 ^ d.l) (nv lb) (packF d man exp some)) ∧ Grow w w' [] := by
  refine enterW Try.func79 rfl Try.ntmps79 rfl ?_
  have hw0 := St.start w
  have hbp := Ma.blen_pos ha0
  have hbq := Ma.blen_pos hb0
  refine c_seq ?_
  refine c_region ?_
  refine l_assign rfl rfl rfl ?_
  refine l_assign rfl rfl rfl ?_
  refine l_assign rfl rfl rfl ?_
  refine l_nil ?_
  refine e_then ?_
  refine c_keep [0, 1, 4] (.cons rfl (.cons rfl (.cons rfl .nil))) ?_
  refine c_seq ?_
  refine c_region ?_
  refine l_move rfl rfl rfl ?_
  refine l_callp rfl rfl Try.func56 rfl rfl (.cons rfl .nil) (lenV hUa (by omega) (hw0.iarg ha)) ?_
  refine l_move rfl rfl rfl ?_
  refine l_callp rfl rfl Try.func56 rfl rfl (.cons rfl .nil) (lenV hUb (by omega) (hw0.iarg hb)) ?_
  refine l_sub rfl rfl rfl rfl (w_i64 (by omega)) ?_
  refine l_assign rfl rfl rfl ?_
  refine l_nil ?_
  refine e_then ?_
  refine c_keep [0, 1, 4, 5] (.cons rfl (.cons rfl (.cons rfl (.cons rfl .nil)))) ?_
  refine c_seq ?_
  refine c_region ?_
  refine l_move rfl rfl rfl ?_
  refine l_move rfl rfl rfl ?_
  refine l_neg rfl rfl rfl (w_i64 (by omega)) ?_
  refine l_max rfl rfl rfl rfl ?_
  refine l_call rfl rfl Try.func55 rfl rfl (.cons rfl (.cons rfl .nil)) (ShlN va la hUa hLa _ w (hw0.iarg ha)) ?_
  rintro _ w1 ⟨vn0, ln0, rfl, hcn0, hG⟩
  have hw1 := hG _ _ _ _ hw0
  try clear hG hw0
  simp only [List.cons_append, List.nil_append] at hw1
  rw [shlS_ok hba (by omega) (by omega)] at hcn0
  refine l_move rfl rfl rfl ?_
  refine l_extract rfl rfl rfl rfl ?_
  refine l_extract rfl rfl rfl rfl ?_
  refine l_assign rfl rfl rfl ?_
  refine l_nil ?_
  refine e_then ?_
  refine c_keep [0, 1, 4, 5] (.cons rfl (.cons rfl (.cons rfl (.cons rfl .nil)))) ?_
  refine c_seq ?_
  refine c_region ?_
  refine l_move rfl rfl rfl ?_
  refine l_move rfl rfl rfl ?_
  refine l_max rfl rfl rfl rfl ?_
  refine l_call rfl rfl Try.func55 rfl rfl (.cons rfl (.cons rfl .nil)) (ShlN vb lb hUb hLb _ w1 (hw1.iarg hb)) ?_
  rintro _ w2 ⟨vd, ld, rfl, hcd, hG⟩
  have hw2 := hG _ _ _ _ hw1
  try clear hG hw1
  simp only [List.cons_append, List.nil_append] at hw2
  rw [shlS_ok hbb (by omega) (by omega)] at hcd
  refine l_move rfl rfl rfl ?_
  refine l_extract rfl rfl rfl rfl ?_
  refine l_extract rfl rfl rfl rfl ?_
  refine l_assign rfl rfl rfl ?_
  refine l_nil ?_
  refine e_then ?_
  refine c_keep [0, 1, 4, 5] (.cons rfl (.cons rfl (.cons rfl (.cons rfl .nil)))) ?_
  refine c_seq ?_
  refine c_seq ?_
  refine c_region ?_
  obtain ⟨n0, hn0⟩ : ∃ n0, n0 = nv la * 2 ^ (max (0 - (Ma.blen (nv la) - Ma.blen (nv lb))) 0).toNat := ⟨_, rfl⟩
  obtain ⟨dn, hdn⟩ : ∃ dn, dn = nv lb * 2 ^ (max (Ma.blen (nv la) - Ma.blen (nv lb)) 0).toNat := ⟨_, rfl⟩
  simp only at hcn0 hcd
  rw [← hn0] at hcn0
  rw [← hdn] at hcd
  have hn0p : 0 < n0 := by rw [hn0]; exact Int.mul_pos ha0 (p2 _)
  have hdnp : 0 < dn := by rw [hdn]; exact Int.mul_pos hb0 (p2 _)
  have hbn : Ma.blen n0 = max (Ma.blen (nv la)) (Ma.blen (nv lb)) := by rw [hn0, blen_shl ha0]; omega
  have hbd : Ma.blen dn = max (Ma.blen (nv la)) (Ma.blen (nv lb)) := by rw [hdn, blen_shl hb0]; omega
  have hvn0 : nv ln0 = n0 := hcn0.val
  obtain ⟨kb, hkb, hkb1, hkb2⟩ := Ma.blen_spec hn0p
  obtain ⟨kd, hkd, hkd1, hkd2⟩ := Ma.blen_spec hdnp
  obtain rfl : kd = kb := by omega
  rw [Int.pow_succ] at hkb2 hkd2
  have hln0 := cn_len64 hcn0 (k := 8192) (by omega)
  have hld := cn_len64 hcd (k := 8192) (by omega)
  have hw3 := St.frontL (l := [_]) hw2
  simp only [List.cons_append, List.nil_append] at hw3
  try clear hw2
  refine l_move rfl rfl rfl ?_
  refine l_nil ?_
  refine e_then ?_
  refine c_block ?_
  refine c_loopk (ι := Nat × Int × Value × List Int) (fun (z0 : Nat × Int × Value × List Int) => match z0 with | ⟨i, man, vn, ln⟩ => 64 - i) (fun (z0 : Nat × Int × Value × List Int) (w' : World) => match z0 with | ⟨i, man, vn, ln⟩ => St w w.heap.size None' ([As.ri 22 .u64 vn ln, As.ri 22 .u64 vd ld]) w' ∧ i ≤ 64 ∧ U ln ∧ ln.length ≤ 200 + i ∧ 0 ≤ nv ln ∧ nv ln < 2 * dn ∧ n0 * 2 ^ i = man * (2 * dn) + nv ln ∧ 0 ≤ man ∧ man < 2 ^ i) (fun (z0 : Nat × Int × Value × List Int) => match z0 with | ⟨i, man, vn, ln⟩ => [(0, vn), (4, .int .u64 man), (29, .int .i64 (i : Int))]) [1, 5] (0, 0, vn0, ln0) ?_ (.cons rfl (.cons rfl .nil)) ?_ ?_
  · exact ⟨hw3, by omega, U.of_dg hcn0.dg, by omega, by omega, by omega, by rw [hvn0]; simp, by omega, by decide⟩
  · exact (.cons rfl (by first | rfl | (refine congrArg (Value.int _) ?_; omega)) (.cons rfl (by first | rfl | (refine congrArg (Value.int _) ?_; omega)) (.cons rfl (by first | rfl | (refine congrArg (Value.int _) ?_; omega)) .nil)))
  rintro ⟨i, man, vn, ln⟩ w4 ⟨hw4, hi, hUn, hln, hnn, hn2d, hiv, hm0, hmi⟩
  show RunC P _ _ _ (_ :: _) _
  have h63i : i < 64 → man ≤ 9223372036854775807 := fun h => by
    have := Ma.pow_mono (show (1 : Int) ≤ 2 by omega) (show i ≤ 63 by omega)
    rw [show (2 : Int) ^ 63 = 9223372036854775808 by rfl] at this
    omega
  have hvd : nv ld = dn := hcd.val
  have h63 := Ma.pow_mono (show (1 : Int) ≤ 2 by omega) (show i ≤ 64 by omega)
  refine c_seq ?_
  refine c_region ?_
  refine l_lss rfl rfl rfl rfl ?_
  refine l_nil ?_
  refine e_then ?_
  refine c_seq ?_
  first | refine c_cond rfl (fun hc0 => ?_) (fun hc0 => ?_) | refine c_condb rfl (fun hc0 => ?_) (fun hc0 => ?_)
  · skip
    refine c_skip ?_
    refine e_then ?_
    refine c_keep [0, 1, 4, 5, 29] (.cons rfl (.cons rfl (.cons rfl (.cons rfl (.cons rfl .nil))))) ?_
    refine c_seq ?_
    refine c_block ?_
    refine c_seq ?_
    refine c_region ?_
    have h63j := h63i (by omega)
    refine l_move rfl rfl rfl ?_
    refine l_shl rfl rfl rfl rfl (by omega) (shl_eq (d := 2) (by decide) (w_u64 (by omega))) ?_
    refine l_assign rfl rfl rfl ?_
    refine l_nil ?_
    refine e_then ?_
    refine c_keep [0, 1, 4, 5, 29] (.cons rfl (.cons rfl (.cons rfl (.cons rfl (.cons rfl .nil))))) ?_
    refine c_seq ?_
    refine c_seq ?_
    refine c_region ?_
    refine l_move rfl rfl rfl ?_
    refine l_move rfl rfl rfl ?_
    refine l_call rfl rfl Try.func91 rfl rfl (.cons rfl (.cons rfl .nil)) (subN vn vd ln ld hUn (U.of_dg hcd.dg) (by omega) (by omega) w4 (hw4.io mem0) (hw4.io mem1)) ?_
    rintro _ w5 ⟨vs, ls, rfl, hcs, hG⟩
    have hw5 := hG _ _ _ _ hw4
    try clear hG hw4
    simp only [List.cons_append, List.nil_append] at hw5
    refine l_move rfl rfl rfl ?_
    refine l_extract rfl rfl rfl rfl ?_
    refine l_extract rfl rfl rfl rfl ?_
    refine l_assign rfl rfl rfl ?_
    refine l_assign rfl rfl rfl ?_
    refine l_nil ?_
    refine e_then ?_
    refine c_keep [0, 1, 4, 5, 7, 8, 29] (.cons rfl (.cons rfl (.cons rfl (.cons rfl (.cons rfl (.cons rfl (.cons rfl .nil))))))) ?_
    refine c_seq ?_
    refine c_region ?_
    refine l_move rfl rfl rfl ?_
    refine l_nil ?_
    refine e_then ?_
    refine c_keep [0, 1, 4, 5, 7, 29, 39] (.cons rfl (.cons rfl (.cons rfl (.cons rfl (.cons rfl (.cons rfl (.cons rfl .nil))))))) ?_
    first | refine c_cond rfl (fun hc1 => ?_) (fun hc1 => ?_) | refine c_condb rfl (fun hc1 => ?_) (fun hc1 => ?_)
    · skip
      refine c_seq ?_
      refine c_region ?_
      rw [if_pos hc1] at hcs
      have hvs := hcs.val
      change nv ls = _ at hvs
      have hsl := cn_len64 hcs (k := 8192) (by have := Ma.blen_mono (show 0 ≤ nv ln - nv ld by omega) (show nv ln - nv ld ≤ dn by omega); omega)
      refine l_move rfl rfl rfl ?_
      refine l_bits rfl rfl rfl rfl rfl (or_1 (by have := h63i (by omega); omega)) ?_
      refine l_assign rfl rfl rfl ?_
      refine l_nil ?_
      refine e_then ?_
      refine c_keep [1, 4, 5, 7, 29] (.cons rfl (.cons rfl (.cons rfl (.cons rfl (.cons rfl .nil))))) ?_
      refine c_region ?_
      refine l_move rfl rfl rfl ?_
      refine l_assign rfl rfl rfl ?_
      refine l_nil ?_
      refine e_then ?_
      refine c_keep [0, 1, 4, 5, 29] (.cons rfl (.cons rfl (.cons rfl (.cons rfl (.cons rfl .nil))))) ?_
      refine c_region ?_
      refine l_move rfl rfl rfl ?_
      refine l_call rfl rfl Try.func92 rfl rfl (.cons rfl .nil) (twiceB vs ls (U.of_dg hcs.dg) (by omega) w5 (hw5.io mem0)) ?_
      rintro v2 w6 ⟨_, l2, rfl, hU2, hl2, hn2, hG⟩
      have hw6 := hG _ _ _ _ hw5
      try clear hG hw5
      simp only [List.cons_append, List.nil_append] at hw6
      refine l_assign rfl rfl rfl ?_
      refine l_nil ?_
      refine e_blk ?_
      refine e_then ?_
      refine c_keep [0, 1, 4, 5, 29] (.cons rfl (.cons rfl (.cons rfl (.cons rfl (.cons rfl .nil))))) ?_
      refine c_region ?_
      have hw7 := St.del (.tail .head) hw6
      try clear hw6
      have hw8 := St.del (.tail .head) hw7
      try clear hw7
      refine l_add rfl rfl rfl rfl (w_i64 (by omega)) ?_
      refine l_move rfl rfl rfl ?_
      refine l_nil ?_
      refine e_againk (i := (i, man, vn, ln)) (i + 1, man * 2 + 1, v2, l2) ?_ ?_ (.cons rfl (.cons rfl .nil)) ?_
      · first | omega | (simp; omega)
      · refine ⟨hw8, by omega, hU2, by omega, by omega, by omega, ?_, by omega, by rw [Int.pow_succ]; omega⟩
        rw [hn2, hvs, hvd]
        exact ratio_step1 hiv
      · exact (.cons rfl (by first | rfl | (refine congrArg (Value.int _) ?_; omega)) (.cons rfl (by first | rfl | (refine congrArg (Value.int _) ?_; omega)) (.cons rfl (by first | rfl | (refine congrArg (Value.int _) ?_; omega)) .nil)))
    · skip
      refine c_skip ?_
      refine e_then ?_
      refine c_keep [0, 1, 4, 5, 29] (.cons rfl (.cons rfl (.cons rfl (.cons rfl (.cons rfl .nil))))) ?_
      refine c_region ?_
      refine l_move rfl rfl rfl ?_
      refine l_call rfl rfl Try.func92 rfl rfl (.cons rfl .nil) (twiceB vn ln hUn (by omega) w5 (hw5.io mem1)) ?_
      rintro v2 w9 ⟨_, l2, rfl, hU2, hl2, hn2, hG⟩
      have hw9 := hG _ _ _ _ hw5
      try clear hG hw5
      simp only [List.cons_append, List.nil_append] at hw9
      refine l_assign rfl rfl rfl ?_
      refine l_nil ?_
      refine e_blk ?_
      refine e_then ?_
      refine c_keep [0, 1, 4, 5, 29] (.cons rfl (.cons rfl (.cons rfl (.cons rfl (.cons rfl .nil))))) ?_
      refine c_region ?_
      have hw10 := St.del (.tail .head) hw9
      try clear hw9
      have hw11 := St.del (.tail .head) hw10
      try clear hw10
      refine l_add rfl rfl rfl rfl (w_i64 (by omega)) ?_
      refine l_move rfl rfl rfl ?_
      refine l_nil ?_
      refine e_againk (i := (i, man, vn, ln)) (i + 1, man * 2, v2, l2) ?_ ?_ (.cons rfl (.cons rfl .nil)) ?_
      · first | omega | (simp; omega)
      · refine ⟨hw11, by omega, hU2, by omega, by omega, by omega, ?_, by omega, by rw [Int.pow_succ]; omega⟩
        rw [hn2]
        exact ratio_step0 hiv
      · exact (.cons rfl (by first | rfl | (refine congrArg (Value.int _) ?_; omega)) (.cons rfl (by first | rfl | (refine congrArg (Value.int _) ?_; omega)) (.cons rfl (by first | rfl | (refine congrArg (Value.int _) ?_; omega)) .nil)))
  · skip
    refine c_exit ?_
    refine e_then_exit ?_
    refine e_then_exit ?_
    refine e_blk_exit ?_
    refine e_then ?_
    refine c_keep [0, 4, 5] (.cons rfl (.cons rfl (.cons rfl .nil))) ?_
    refine c_seq ?_
    refine c_region ?_
    refine l_move rfl rfl rfl ?_
    refine l_move rfl rfl rfl ?_
    refine l_sub rfl rfl rfl rfl (w_i64 (by omega)) ?_
    refine l_move rfl rfl rfl ?_
    refine l_callp rfl rfl Try.func56 rfl rfl (.cons rfl .nil) (lenV hUn (by omega) (hw4.io mem0)) ?_
    refine l_gtr rfl rfl rfl rfl ?_
    refine l_assign rfl rfl rfl ?_
    refine l_assign rfl rfl rfl ?_
    refine l_assign rfl rfl rfl ?_
    refine l_nil ?_
    refine e_then ?_
    refine c_keep [4, 5, 6] (.cons rfl (.cons rfl (.cons rfl .nil))) ?_
    refine c_ret ?_
    refine e_doneN Try.results79 (.tmp rfl (.tmp rfl (.tmp rfl .nil))) rfl ?_
    refine ⟨_, rfl, ?_⟩
    have hw12 := St.del (.tail .head) hw4
    try clear hw4
    have hw13 := St.del .head hw12
    try clear hw12
    obtain rfl : i = 64 := by omega
    rw [show (2 : Int) ^ 64 = 18446744073709551616 by rfl] at hiv hmi
    obtain ⟨g1, g2, g3, g4, g5⟩ := ratio_end hdnp hiv ⟨hnn, hn2d⟩ (by omega)
    refine ⟨_, _, _, rfl, ⟨hm0, by omega⟩, by omega, fun d => ?_, hw13.grows⟩
    refine ratio_rnd d ha0 hb0 rfl ⟨g5, hmi⟩ ?_ ⟨g2, ?_⟩ ?_
    · rw [show (-(Ma.blen (nv la) - Ma.blen (nv lb))).toNat = (max (0 - (Ma.blen (nv la) - Ma.blen (nv lb))) 0).toNat by omega, show (Ma.blen (nv la) - Ma.blen (nv lb)).toNat = (max (Ma.blen (nv la) - Ma.blen (nv lb)) 0).toNat by omega, ← hn0, ← hdn]
      exact g1
    · rw [show (Ma.blen (nv la) - Ma.blen (nv lb)).toNat = (max (Ma.blen (nv la) - Ma.blen (nv lb)) 0).toNat by omega, ← hdn]
      exact g3
    · rw [decide_eq_true_iff, ← g4]
      constructor
      · intro h
        rcases Int.lt_or_le 0 (nv ln) with h' | h'
        · exact h'
        · rw [show nv ln = 0 by omega, Ma.blen_zero] at h; omega
      · exact Ma.blen_pos
end Go.Proofs.Ytmcbdgpcbcldjaa.W
