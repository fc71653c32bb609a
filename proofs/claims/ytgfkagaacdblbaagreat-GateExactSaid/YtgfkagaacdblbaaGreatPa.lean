/- walks of power.words, powers and what it gives -/
import Derived.Test.YtgfkagaacdblbaaGreatVr
import Derived.Test.YtgfkagaacdblbaaGreatNa
set_option linter.unusedVariables false
set_option linter.unusedSimpArgs false
set_option maxRecDepth 10000
namespace Go.Proofs.YtgfkagaacdblbaaGreat.W
open Go.Vc Go.RowKit Tryz
abbrev Z44 (n : Int) : Value := .agg #[.int .u64 (n / 18446744073709551616), .int .u64 (n % 18446744073709551616)]
theorem wide_words : ∀ {ls : List Int}, U ls → ls.length ≤ 2 → (if 1 < ls.length then ls.getD 1 0 else 0) = nv ls / 18446744073709551616 ∧ (if 0 < ls.length then ls.getD 0 0 else 0) = nv ls % 18446744073709551616
 | [], _, _ => by decide
 | [a], h, _ => by
  have ha := h a (.head _)
  simp [Ma.vb]
  omega
 | [a, b], h, _ => by
  have ha := h a (.head _)
  have hb := h b (.tail _ (.head _))
  simp [Ma.vb]
  omega
 | _ :: _ :: _ :: _, _, h => by simp at h
set_option exponentiation.threshold 2000 in
theorem Z1T (n : Nat) (h : n ≤ 401) : Ma.blen (5 ^ n) ≤ 1203 := by
 have hp : ∀ n : Nat, (0 : Int) ≤ 5 ^ n ∧ (5 : Int) ^ n ≤ 8 ^ n := by
  intro n
  induction n with
  | zero => decide
  | succ n ih =>
   rw [Int.pow_succ, Int.pow_succ]
   have := ih.1
   have := ih.2
   omega
 have h1 := hp n
 refine (Ma.blen_le_iff h1.1 1203).2 ?_
 have h2 : (8 : Int) ^ n = 2 ^ (3 * n) := by rw [Int.pow_mul]; rfl
 have h3 := Ma.pow_mono (show (1 : Int) ≤ 2 by omega) (show 3 * n + 0 ≤ 1203 by omega)
 have h4 : (5 : Int) ^ n < 8 ^ n ∨ n = 0 := by
  rcases Nat.eq_zero_or_pos n with h | h
  ·exact .inr h
  refine .inl ?_
  obtain ⟨m, rfl⟩ : ∃ m, n = m + 1 := ⟨n - 1, ZO⟩
  have := hp m
  have hp5 := Ma.pow_pos (show (0 : Int) < 5 by omega) m
  rw [Int.pow_succ, Int.pow_succ]
  omega
 rcases h4 with h4 | h4
 ·rw [h2] at h4
  exact Int.lt_of_lt_of_le h4 (by simpa using h3)
 subst h4
 exact Int.lt_of_lt_of_le (show (5 : Int) ^ 0 < 2 ^ 1 by decide) (Ma.pow_mono ZO ZO)
theorem powF {n : Nat} (hn : n ≤ 401) {w : World} : Z0f P 88 [.int .u64 5, .int .i64 (n : Int)] w fun r w' => ∃ v ls, r = .tuple #[v, .int .i64 0] ∧ Ma.Cn 18446744073709551616 ls (5 ^ n) ∧ Grow w w' [As.ri 83 .u64 v ls] := by
 refine (powN 5 n ZO ZO w).mono ?_
 intro r w' h
 have hb := Z1T n hn
 rw [Z4P ZO (by rw [Int.toNat_natCast]; omega), Int.toNat_natCast] at h
 exact h
theorem Uone {x : Int} (h : 0 ≤ x ∧ x ≤ 18446744073709551615) : U [x] := fun y hy => by rw [List.mem_singleton.1 hy]; exact h
theorem nvone (x : Int) : nv [x] = x := by simp [Ma.vb]
theorem Cnone {x : Int} (h : 0 < x ∧ x ≤ 18446744073709551615) : Ma.Cn 18446744073709551616 [x] x := ⟨(Uone (by omega)).dg, ⟨fun _ => by omega, trivial⟩, by simp [Ma.vb]⟩
theorem wordsP (v : Value) (ls : List Int) (hU : U ls) (hL : ls.length ≤ 2) (w : World) (hv : IV w v (ints .u64 ls)) :
  Z0f P 95 [v] w fun r w' => r = Z44 (nv ls) ∧ Grow w w' [] := by
 refine Z0o func95 rfl ntmps95 rfl ?_
 have H0 := St.start w
 refine Z03 (Z00 ?_)
 refine Z0X H0 ta85 rfl rfl (fun b0_0 w1 H1 => ?_)
 refine Z01 (Z02 (Z03 (Z00 ?_)))
 refine Z16 rfl rfl pl85 ta85 .nil ?_
 refine Z0X H1 ta85 rfl rfl (fun b1_1 w2 H2 => ?_)
 refine Z0m H2 .head (.zero (.zero .nil)) rfl tz85 rfl rfl ZC (fun w3 H3 => ?_)
 refine Z01 (Z02 ?_)
 refine Zk [0, 2, 3] ?_
 refine Z03 (Z03 (Z00 (Zm ?_)))
 refine Z0u rfl rfl underlying127 rfl (by first | exact H3.ibl mem0 | exact H3.ibl mem1 | exact H3.iarg hv | assumption) ?_
 refine Zm (Z01 (Z02 ?_))
 refine Zk [2, 3, 7, 8, 9] ?_
 refine Z0d ?_
 refine Z0z (ι := Nat × Int × Int) (fun (z0 : Nat × Int × Int) => match z0 with | ⟨i, hi, lo⟩ => ls.length - i) (fun (z0 : Nat × Int × Int) (w' : World) => match z0 with | ⟨i, hi, lo⟩ => St w w.heap.size Z0J ([As.blk b1_1 85 [.int .u64 hi, .int .u64 lo], As.blk b0_0 85 [.int .u64 0, .int .u64 0]]) w' ∧ i ≤ ls.length ∧ hi = (if 1 < i then ls.getD 1 0 else 0) ∧ lo = (if 0 < i then ls.getD 0 0 else 0)) (fun (z0 : Nat × Int × Int) => match z0 with | ⟨i, hi, lo⟩ => [(9, .int .i64 (i : Int))]) [2, 3, 7, 8] (0, 0, 0) ?_ (.cons rfl (.cons rfl (.cons rfl (.cons rfl .nil)))) ?_ ?_
 ·exact ⟨H3, ZO, rfl, rfl⟩
 ·exact (.cons rfl ZN .nil)
 rintro ⟨i, hi, lo⟩ w4 ⟨H4, hi1, hhi, hlo⟩
 show RunC P _ _ _ (_ :: _) _
 refine Z03 (Z00 ?_)
 refine Zl ?_
 refine Z01 (Z02 (Z03 ?_))
 (first | refine Z0c rfl ?_ ?_ | refine Z08 rfl ?_ ?_) <;> intro hc0
 ·refine Z0a (Z02 ?_)
  refine Zk [2, 3, 7, 8, 9] ?_
  refine Z03 (Z0d (Z03 (Z00 (Zm ?_))))
  refine Z0T (j := i) rfl rfl rfl rfl underlying127 tz83 underlying83 rfl rfl (by first | exact H4.ibl mem0 | exact H4.ibl mem1 | exact H4.iarg hv | assumption) ZA rfl ZO ZI (fun hb4_1 => ?_)
  refine Zg (Zg (Z01 (Z02 ?_)))
  refine Zk [2, 3, 4, 5, 7, 8, 9] ?_
  refine Z03 (Z00 (Zm ?_))
  refine Ze ?_
  refine Z01 (Z02 ?_)
  refine Zk [2, 3, 5, 7, 8, 9, 15] ?_
  (first | refine Z0c rfl ?_ ?_ | refine Z08 rfl ?_ ?_) <;> intro hc1
  ·refine Z00 (Zm (Z09 fo85_1 rfl rfl rfl ?_))
   refine Z0s H4 .head (by repeat (first | exact .zero | apply Z1F.succ)) rfl tz83 rfl rfl ZR (fun w5 H5 => ?_)
   refine Z01 ?_
   refine Z0F ?_
   refine Z02 ?_
   refine Zk [2, 3, 7, 8, 9] ?_
   refine Z00 ?_
   refine Z0y rfl rfl rfl rfl (Z0l ZO) ?_
   refine Zm (Z01 ?_)
   refine Z0p (i := (i, hi, lo)) (i + 1, hi, ls.getD i 0) ?_ ?_ (.cons rfl (.cons rfl (.cons rfl (.cons rfl .nil)))) ?_
   ·first | omega | (simp; omega)
   ·have hz : i = 0 := by omega
    subst hz
    exact ⟨H5, ZO, by rw [hhi]; rfl, rfl⟩
   exact (.cons rfl ZN .nil)
  refine Z00 (Zm (Z09 fo85_0 rfl rfl rfl ?_))
  refine Z0s H4 .head (by repeat (first | exact .zero | apply Z1F.succ)) rfl tz83 rfl rfl ZR (fun w6 H6 => ?_)
  refine Z01 ?_
  refine Z0F ?_
  refine Z02 ?_
  refine Zk [2, 3, 7, 8, 9] ?_
  refine Z00 ?_
  refine Z0y rfl rfl rfl rfl (Z0l ZO) ?_
  refine Zm (Z01 ?_)
  refine Z0p (i := (i, hi, lo)) (i + 1, ls.getD i 0, lo) ?_ ?_ (.cons rfl (.cons rfl (.cons rfl (.cons rfl .nil)))) ?_
  ·first | omega | (simp; omega)
  ·have hz : i = 1 := by omega
   subst hz
   exact ⟨H6, ZO, rfl, by rw [hlo]; rfl⟩
  exact (.cons rfl ZN .nil)
 refine Z0H ?_
 refine Z06 ?_
 refine Z06 ?_
 refine Z0h ?_
 refine Z02 ?_
 refine Zk [2, 3] ?_
 refine Z03 (Z00 ?_)
 refine Z1b H4 mem0 rfl rfl underlying85 rfl tz85 rfl (.take (.take .nil)) ?_
 refine Z0m H4 (.tail .head) (.zero (.zero .nil)) rfl tz85 rfl rfl ZC (fun w7 H7 => ?_)
 refine Z01 (Z02 ?_)
 refine Zk [2] ?_
 refine Z0i ?_
 refine Z2n results95 (.cell rfl (Z0E H7 mem1 underlying85 rfl tz85 (.take (.take .nil))) .nil) ?_
 refine ⟨_, rfl, ?_⟩
 have H9 := St.del .head (St.del (.tail .head) H7)
 obtain rfl : i = ls.length := by omega
 have hww := wide_words hU hL
 rw [← hhi, ← hlo] at hww
 exact ⟨by unfold Z44; rw [← hww.1, ← hww.2], H9.grows⟩
theorem powersP (n : Nat) (hn : n ≤ 400) (w : World) :
  Z0f P 78 [.int .i64 (n : Int)] w fun r w' => ∃ b vl ls, r = .func (.func 89) #[] #[.pointer (some ⟨b, 0, none⟩)] ∧ Ma.Cn 18446744073709551616 ls (5 ^ n) ∧ Grow w w' [As.blk b 127 [vl], As.ri 83 .u64 vl ls] := by
 refine Z0o func78 rfl ntmps78 rfl ?_
 have H0 := St.start w
 refine Z03 (Z00 (Zg (Z01 (Z02 ?_))))
 refine Zk [0] ?_
 refine Z03 (Z00 (Zm ?_))
 refine Zc func88 (powF (n := n) ZO (w := w)) ?_
 rintro _ w1 ⟨vl, ls, rfl, hcn, hG⟩
 have H1 := hG _ _ _ _ H0
 simp only [Zca, Zna] at H1
 have hone1 := slice_one (H1.io mem0)
 refine Zm ?_
 refine Zx (Zx ?_)
 refine Z0X H1 ta127 rfl rfl (fun b1_5 w2 H2 => ?_)
 refine Z0s H2 .head (by repeat (first | exact .zero | apply Z1F.succ)) rfl tz127 rfl rfl ZR (fun w3 H3 => ?_)
 refine Zg (Z01 (Z02 ?_))
 refine Zk [3] ?_
 refine Z03 (Z00 ?_)
 refine Z1I rfl rfl (.cons rfl .nil) ?_
 refine Zg (Z01 (Z02 ?_))
 refine Zk [2] ?_
 refine Z0i ?_
 refine Z0e results78 rfl ?_
 refine ⟨_, rfl, ?_⟩
 have H5 := St.front1 (St.front1 H3)
 exact ⟨_, _, _, rfl, hcn, H5.grows⟩
theorem nextP (b : Nat) (vl : Value) (ls : List Int) (n : Nat) (hn : n ≤ 400) (hc : Ma.Cn 18446744073709551616 ls (5 ^ n)) (w : World) (hS : Sep w.heap.size (fps [As.blk b 127 [vl], As.ri 83 .u64 vl ls]) w [As.blk b 127 [vl], As.ri 83 .u64 vl ls]) :
  Z0f P 89 [.pointer (some ⟨b, 0, none⟩)] w fun r w' => vl = r ∧ ∃ vm lm, Ma.Cn 18446744073709551616 lm (5 ^ (n + 1)) ∧ Z1C w w' [As.blk b 127 [vl], As.ri 83 .u64 vl ls] [As.blk b 127 [vm], As.ri 83 .u64 vm lm, As.ri 83 .u64 vl ls] := by
 refine Z0o func89 rfl ntmps89 rfl ?_
 have H0 := St.startS hS
 have hb0 := Z1T n ZO
 have hb1 := Z1T (n + 1) ZO
 have hll := Z3x hc (k := 1203) ZO
 have ev : nv ls = 5 ^ n := hc.val
 refine Z03 (Z00 (Zg (Z01 (Z02 ?_))))
 refine Zk [0] ?_
 refine Z03 (Z00 ?_)
 refine Z05 H0 mem0 rfl rfl underlying127 rfl rfl rfl ?_
 refine Zg (Z01 (Z02 ?_))
 refine Zk [0, 2] ?_
 refine Z03 (Z00 (Zm ?_))
 refine Z2g H0 rfl rfl underlying127 ti83 rfl (.cons rfl ZR .nil) rfl rfl rfl (fun b2_1 w1 H1 => ?_)
 refine Zc func90 (mulS (cnU hc) (Uone (x := 5) ZO) ZO (by simp) (by rw [ev]; omega) (by rw [nvone]; decide) (by rw [ev, nvone, ← Int.pow_succ]; exact Int.le_trans hb1 ZO) (H1.io mem2) (H1.ibl mem0)) ?_
 rintro _ w2 ⟨vm, lm, rfl, hm, hG⟩
 have H2 := hG _ _ _ _ H1
 simp only [Zca, Zna] at H2
 have hone1 := slice_one (H2.io mem0)
 refine Zm ?_
 refine Zx (Zx ?_)
 refine Z0s H2 (.tail (.tail .head)) (by repeat (first | exact .zero | apply Z1F.succ)) rfl tz127 rfl rfl ZR (fun w3 H3 => ?_)
 refine Z01 (Z02 ?_)
 refine Zk [2] ?_
 refine Z03 (Z00 (Zm (Zg (Z01 (Z02 ?_)))))
 refine Zk [1] ?_
 refine Z0i ?_
 refine Z0e results89 rfl ?_
 refine ⟨_, rfl, ?_⟩
 have H7 := St.del (.tail (.tail (.tail .head))) (St.front3 (St.front1 (St.front3 H3)))
 rw [ev, nvone, ← Int.pow_succ] at hm
 exact ⟨rfl, _, _, hm, St.transS (τ' := [As.blk b 127 [vm], As.ri 83 .u64 vm lm, As.ri 83 .u64 vl ls]) H7⟩
def abM (X : Int) : Int := if Ma.blen X < 128 then X * 2 ^ (128 - Ma.blen X).toNat else X / 2 ^ (Ma.blen X - 128).toNat
def blM (X : Int) : Int := 2 ^ (127 + Ma.blen X).toNat / X + 1
theorem abM_lt {X : Int} (h : 0 < X) : 0 ≤ abM X ∧ abM X < 340282366920938463463374607431768211456 := by
 have hb := (Ma.blen_le_iff (Int.le_of_lt h) (Ma.blen X).toNat).1 (by have := Ma.blen_nonneg X; omega)
 have hb0 := Ma.blen_nonneg X
 have e128 : (2 : Int) ^ 128 = 340282366920938463463374607431768211456 := by decide
 unfold abM
 split
 ·rename_i h1
  have hp := Ma.pow_pos (show (0 : Int) < 2 by omega) (128 - Ma.blen X).toNat
  have h2 : X * 2 ^ (128 - Ma.blen X).toNat < 2 ^ (Ma.blen X).toNat * 2 ^ (128 - Ma.blen X).toNat := Int.mul_lt_mul_of_pos_right hb hp
  rw [← Int.pow_add, show (Ma.blen X).toNat + (128 - Ma.blen X).toNat = 128 from by omega, e128] at h2
  exact ⟨Int.mul_nonneg (Int.le_of_lt h) (Int.le_of_lt hp), h2⟩
 rename_i h1
 have hp := Ma.pow_pos (show (0 : Int) < 2 by omega) (Ma.blen X - 128).toNat
 refine ⟨Int.ediv_nonneg (Int.le_of_lt h) (Int.le_of_lt hp), Int.ediv_lt_of_lt_mul hp ?_⟩
 rw [← e128, ← Int.pow_add, show 128 + (Ma.blen X - 128).toNat = (Ma.blen X).toNat from by omega]
 exact hb
def entS (q : Int) : Int × Int × Int := if q < -342 ∨ 308 < q then (0, 0, 60) else if q < 0 then (blM (5 ^ (-q).toNat), -(127 + Ma.blen (5 ^ (-q).toNat)), 0) else (abM (5 ^ q.toNat), Ma.blen (5 ^ q.toNat) - 128, 0)
theorem bl_fit : ∀ n : Fin 343, n.val = 0 ∨ blM (5 ^ n.val) < 340282366920938463463374607431768211456 := by decide +kernel
theorem Z2A (n : Nat) : (0 : Int) < 5 ^ n := Ma.pow_pos (by omega) n
theorem aboveP (v : Value) (ls : List Int) (X : Int) (hc : Ma.Cn 18446744073709551616 ls X) (hx : 0 < X) (hb : Ma.blen X ≤ 1203) (w : World) (hv : IV w v (ints .u64 ls)) :
  Z0f P 80 [v] w fun r w' => r = .tuple #[Z44 (abM X), .int .i64 (Ma.blen X - 128)] ∧ Grow w w' [] := by
 refine Z0o func80 rfl ntmps80 rfl ?_
 have H0 := St.start w
 have hll := Z3x hc (k := 1203) hb
 have hbp := Ma.blen_pos hx
 have habl := abM_lt hx
 refine Z03 (Z00 ?_)
 refine Z0X H0 ta85 rfl rfl (fun b0_0 w1 H1 => ?_)
 refine Zg (Z01 (Z02 ?_))
 refine Zk [0, 2] ?_
 refine Z03 (Z00 (Zm ?_))
 refine Zp func91 (lenZ hc ZO (H1.iarg hv)) ?_
 refine Z0W rfl rfl rfl rfl (Z0l ZO) ?_
 refine Zg (Z01 (Z02 ?_))
 refine Zk [0, 2, 4] ?_
 refine Z03 (Z03 (Z00 (Zm ?_)))
 refine Zl ?_
 refine Z01 (Z02 ?_)
 refine Zk [0, 2, 4, 14] ?_
 (first | refine Z0c rfl ?_ ?_ | refine Z08 rfl ?_ ?_) <;> intro hc0
 ·refine Z03 (Z00 (Zm (Zm ?_)))
  refine l_neg rfl rfl rfl (Z0l ZO) ?_
  obtain ⟨k, hk⟩ : ∃ k : Nat, (128 - Ma.blen X).toNat = k := ⟨_, rfl⟩
  refine Z0j (s := 18) (v' := .int .i64 (k : Int)) rfl (by refine congrArg (Value.int _) ?_; omega) ?_
  have eab : abM X = X * 2 ^ k := by unfold abM; rw [if_pos ZO, hk]
  refine Zc func92 (shlZ (k := k) hc hx ZO ZO (H1.iarg hv)) ?_
  rintro _ w2 ⟨vm, lm, rfl, hm, hG⟩
  have H2 := hG _ _ _ _ H1
  simp only [Zca, Zna] at H2
  refine Zm ?_
  refine Zx (Zx (Zg (Zg (Z01 (Z02 ?_)))))
  refine Zk [2, 4, 5] ?_
  refine Z03 (Z00 (Zm ?_))
  refine Zc func95 (wordsP vm lm (cnU hm) (cn_len2 hm (by rw [← eab]; exact habl.2)) w2 (H2.io mem0)) ?_
  rintro _ w3 ⟨rfl, hG⟩
  have H3 := hG _ _ _ _ H2
  simp only [Zca, Zna] at H3
  refine Zm ?_
  refine Z0m H3 (.tail .head) (.zero (.zero .nil)) rfl tz85 rfl rfl ZC (fun w4 H4 => ?_)
  refine Zg (Z01 (Z02 ?_))
  refine Zk [2, 3] ?_
  refine Z0i ?_
  refine Z07 ?_
  refine Z12 results80 (.cell rfl (Z0E H4 mem1 underlying85 rfl tz85 (.take (.take .nil))) (.tmp rfl .nil)) rfl ?_
  refine ⟨_, rfl, ?_⟩
  have H6 := St.del .head (St.del (.tail .head) H4)
  exact ⟨by rw [show nv lm = abM X from hm.val.trans eab.symm], H6.grows⟩
 refine Z0a (Z02 ?_)
 refine Zk [0, 2, 4] ?_
 refine Z03 (Z00 (Zm (Zm ?_)))
 obtain ⟨k, hk⟩ : ∃ k : Nat, (Ma.blen X - 128).toNat = k := ⟨_, rfl⟩
 refine Z0j (s := 27) (v' := .int .i64 (k : Int)) rfl (by refine congrArg (Value.int _) ?_; omega) ?_
 have eab : abM X = X / 2 ^ k := by unfold abM; rw [if_neg ZO, hk]
 refine Zc func96 (shrZ (k := k) hc ZO ZO (H1.iarg hv)) ?_
 rintro _ w7 ⟨vm, lm, bm, rfl, hm, hG⟩
 have H7 := hG _ _ _ _ H1
 simp only [Zca, Zna] at H7
 refine Zm ?_
 refine Zx (Zx (Zx (Zg (Zg (Zg (Z01 (Z02 ?_)))))))
 refine Zk [2, 4, 7] ?_
 refine Z03 (Z00 (Zm ?_))
 refine Zc func95 (wordsP vm lm (cnU hm) (cn_len2 hm (by rw [← eab]; exact habl.2)) w7 (H7.io mem0)) ?_
 rintro _ w8 ⟨rfl, hG⟩
 have H8 := hG _ _ _ _ H7
 simp only [Zca, Zna] at H8
 refine Zm ?_
 refine Z0m H8 (.tail .head) (.zero (.zero .nil)) rfl tz85 rfl rfl ZC (fun w9 H9 => ?_)
 refine Zg (Z01 (Z02 ?_))
 refine Zk [2, 3] ?_
 refine Z0i ?_
 refine Z12 results80 (.cell rfl (Z0E H9 mem1 underlying85 rfl tz85 (.take (.take .nil))) (.tmp rfl .nil)) rfl ?_
 refine ⟨_, rfl, ?_⟩
 have H11 := St.del .head (St.del (.tail .head) H9)
 exact ⟨by rw [show nv lm = abM X from hm.val.trans eab.symm], H11.grows⟩
theorem belowP (v : Value) (ls : List Int) (X : Int) (hc : Ma.Cn 18446744073709551616 ls X) (hx : 0 < X) (hb : Ma.blen X ≤ 1203) (hfit : blM X < 340282366920938463463374607431768211456) (w : World) (hv : IV w v (ints .u64 ls)) :
  Z0f P 79 [v] w fun r w' => r = .tuple #[Z44 (blM X), .int .i64 (-(127 + Ma.blen X))] ∧ Grow w w' [] := by
 refine Z0o func79 rfl ntmps79 rfl ?_
 have H0 := St.start w
 have hll := Z3x hc (k := 1203) hb
 have hbp := Ma.blen_pos hx
 refine Z03 (Z00 ?_)
 refine Z0X H0 ta85 rfl rfl (fun b0_0 w1 H1 => ?_)
 refine Zg (Z01 (Z02 ?_))
 refine Zk [0, 2] ?_
 refine Z03 (Z00 (Zm ?_))
 refine Zp func91 (lenZ hc ZO (H1.iarg hv)) ?_
 refine Z0y rfl rfl rfl rfl (Z0l ZO) ?_
 refine Zg (Z01 (Z02 ?_))
 refine Zk [0, 2, 4] ?_
 refine Z03 (Z00 ?_)
 refine Z2g H1 rfl rfl underlying127 ti83 rfl (.cons rfl ZR .nil) rfl rfl rfl (fun b2_0 w2 H2 => ?_)
 refine Zm ?_
 obtain ⟨k, hk⟩ : ∃ k : Nat, (127 + Ma.blen X).toNat = k := ⟨_, rfl⟩
 refine Z0j (s := 15) (v' := .int .i64 (k : Int)) rfl (by refine congrArg (Value.int _) ?_; omega) ?_
 have eb : blM X = 2 ^ k / X + 1 := by unfold blM; rw [hk]
 have b2k : Ma.blen (2 ^ k) = k + 1 := Ma.blen_of (Int.le_refl _) (by rw [Int.pow_succ]; have := Ma.pow_pos (show (0 : Int) < 2 by omega) k; omega)
 have hp := Ma.pow_pos (show (0 : Int) < 2 by omega) k
 refine Zc func92 (shlZ (k := k) (Cnone (x := 1) ZO) ZO (by simp) (by rw [show Ma.blen 1 = 1 from by decide]; omega) (H2.ibl mem0)) ?_
 rintro _ w3 ⟨vt, lt, rfl, ht, hG⟩
 have H3 := hG _ _ _ _ H2
 simp only [Zca, Zna] at H3
 refine Zm ?_
 refine Zx (Zx (Zg (Zg (Z01 (Z02 ?_)))))
 refine Zk [0, 2, 4, 5] ?_
 refine Z03 (Z00 ?_)
 have llt := Z3x ht (k := 1400) (by rw [Int.one_mul, b2k]; omega)
 refine Zm (Zm ?_)
 refine Zc func93 (divZ ht hc ZO ZO (by rw [Int.one_mul, b2k]; omega) ZO ZO (H3.io mem0) (H3.iarg hv)) ?_
 rintro _ w4 ⟨vq, vr, lq, lr, rfl, hq, hr, hG⟩
 have H4 := hG _ _ _ _ H3
 simp only [Zca, Zna] at H4
 refine Zm ?_
 refine Zx (Zx (Zx (Zg (Zg (Zg (Z01 (Z02 ?_)))))))
 refine Zk [2, 4, 7] ?_
 refine Z03 (Z00 ?_)
 have evq : nv lq = 2 ^ k / X := by have := hq.val; rwa [Int.one_mul] at this
 have hqn : 0 ≤ 2 ^ k / X := Int.ediv_nonneg (Int.le_of_lt hp) (Int.le_of_lt hx)
 have hb2 := Ma.blen_mono (a := 2 ^ k / X) (b := 2 ^ 128) hqn (by rw [show (2 : Int) ^ 128 = 340282366920938463463374607431768211456 from by decide]; omega)
 have hb3 := Ma.blen_mono (a := 2 ^ k / X + 1) (b := 2 ^ 128) ZO (by rw [show (2 : Int) ^ 128 = 340282366920938463463374607431768211456 from by decide]; omega)
 rw [show Ma.blen (2 ^ 128) = 129 from by decide +kernel] at hb2 hb3
 have llq := Z3x hq (k := 1400) (by rw [Int.one_mul]; omega)
 refine Zm ?_
 refine Z2g H4 rfl rfl underlying127 ti83 rfl (.cons rfl ZR .nil) rfl rfl rfl (fun b4_1 w5 H5 => ?_)
 refine Zc func94 (addS (cnU hq) (Uone (x := 1) ZO) ZO (by simp) (by rw [evq]; omega) (by rw [nvone]; decide) (by rw [evq, nvone]; omega) (H5.io mem1) (H5.ibl mem0)) ?_
 rintro _ w6 ⟨vs, ls2, rfl, hs, hG⟩
 have H6 := hG _ _ _ _ H5
 simp only [Zca, Zna] at H6
 refine Zm ?_
 refine Zx (Zx (Zg (Z01 (Z02 ?_))))
 refine Zk [2, 4, 7] ?_
 refine Z03 (Z00 (Zm ?_))
 refine Zc func95 (wordsP vs ls2 (cnU hs) (cn_len2 hs (by rw [evq, nvone, ← eb]; exact hfit)) w6 (H6.io mem0)) ?_
 rintro _ w7 ⟨rfl, hG⟩
 have H7 := hG _ _ _ _ H6
 simp only [Zca, Zna] at H7
 refine Zm ?_
 refine l_neg rfl rfl rfl (Z0l ZO) ?_
 refine Z0m H7 (.tail (.tail (.tail (.tail (.tail (.tail .head)))))) (.zero (.zero .nil)) rfl tz85 rfl rfl ZC (fun w8 H8 => ?_)
 refine Zg (Z01 (Z02 ?_))
 refine Zk [2, 3] ?_
 refine Z0i ?_
 refine Z12 results79 (.cell rfl (Z0E H8 mem6 underlying85 rfl tz85 (.take (.take .nil))) (.tmp rfl .nil)) rfl ?_
 refine ⟨_, rfl, ?_⟩
 have H15 := St.del .head (St.del (.tail .head) (St.del (.tail (.tail .head)) (St.del (.tail (.tail (.tail .head))) (St.del (.tail (.tail (.tail (.tail .head)))) (St.del (.tail (.tail (.tail (.tail (.tail .head))))) (St.del (.tail (.tail (.tail (.tail (.tail (.tail .head)))))) H8))))))
 exact ⟨by rw [show nv ls2 = blM X from hs.val.trans (by rw [evq, nvone, eb]), Int.zero_sub], H15.grows⟩
theorem wideR (v : Value) (l : List Int) (n : Int) (hR : R16 l n) (hL : l.length ≤ 1048576) (w : World) (hv : IV w v (ints .i64 l)) :
  Z0f P 71 [v] w fun r w' => r = .tuple #[Z44 (n % 340282366920938463463374607431768211456), .bool (decide (128 < Ma.blen n))] ∧ Grow w w' [] := by
 refine Z0o func71 rfl ntmps71 rfl ?_
 have H0 := St.start w
 refine Z03 (Z00 ?_)
 refine Z0X H0 ta85 rfl rfl (fun b0_0 w1 H1 => ?_)
 refine Zg (Z01 (Z02 ?_))
 refine Zk [0, 2] ?_
 refine Z03 (Z00 (Zm ?_))
 refine Zc func82 (wordsR v l n hR ZO w1 (H1.iarg hv)) ?_
 rintro _ w2 ⟨vw, lw, rfl, hcn, hG⟩
 have H2 := hG _ _ _ _ H1
 simp only [Zca, Zna] at H2
 have hlw := Z3x hcn (k := (Ma.blen n).toNat) (by have := Ma.blen_nonneg n; omega)
 have hbl := hR.blen
 have hbn := Ma.blen_nonneg n
 refine Z2g H2 rfl rfl underlying127 ti83 rfl (.cons rfl ZR (.cons rfl ZR .nil)) rfl rfl rfl (fun b1_2 w3 H3 => ?_)
 refine Z46 H3 rfl rfl underlying127 ti83 rfl rfl rfl rfl (by first | (simp [Value.oneCell']; done) | (intro u hu; rw [List.mem_singleton.1 hu]; assumption)) (by first | (simp; done) | (simp; omega)) (by first | (simp; done) | (simp; omega)) (fun v1_3 w4 H4 => ?_)
 have hi2 : ints .u64 (lw ++ [0, 0]) = ints .u64 lw ++ [.int .u64 0, .int .u64 0] := by simp [ints]
 have H5 := H4.cast (σ' := [As.ro 83 v1_3 (ints .u64 (lw ++ [0, 0])), As.blk b0_0 85 [.int .u64 0, .int .u64 0]]) (by rw [hi2])
 refine Zg (Z01 (Z02 ?_))
 refine Zk [0, 2, 4] ?_
 refine Z03 ?_
 have H6 := H5.drewn
 obtain ⟨A2, c2, hv2⟩ := (H6.io mem0).lies (by simp)
 have hUw : U (lw ++ [0, 0]) := fun x hx => (List.mem_append.1 hx).elim (cnU hcn x) (fun h => by have e : x = 0 := (by simpa using h); omega)
 refine Z1a (n := 12) [Zz,Zz,Zz,Zz,Zz,Zz,Zz,Zz,Zz,Zz,Zz,Zz] (fun wS => IS wS .u64 v1_3 (lw ++ [0, 0]) ∧ IS wS .i64 v l) ZK rfl rfl ?_
 apply Zu (L' := [Zy,Zz,Zz,Zz,Zz,Zz,Zz,Zz,Zz,Zz,Zz,Zz]) 0 (⟨H6.io mem0, H6.iarg hv⟩)
 ·intro wS sS
  refine Zm (Z01 ?_)
  exact Z04 rfl
 apply Zu (L' := [Zy,Zy,Zz,Zz,Zz,Zz,Zz,Zz,Zz,Zz,Zz,Zz]) 1 (⟨H6.io mem0, H6.iarg hv⟩)
 ·intro wS sS
  refine Z1c (j := 0) rfl rfl underlying127 tz83 rfl rfl hv2 ZP ZI ?_
  refine Z01 ?_
  exact Z04 rfl
 apply Zu (L' := [Zy,Zy,Zy,Zz,Zz,Zz,Zz,Zz,Zz,Zz,Zz,Zz]) 2 (⟨H6.io mem0, H6.iarg hv⟩)
 ·intro wS sS
  refine Z1u rfl rfl underlying83 rfl hv2 (by first | exact sS.1 | exact sS.2 | exact H6.io mem0 | exact H6.ibl mem1 | exact H6.iarg hv | assumption) ZA ZI (fun hb2_2 => ?_)
  refine Z01 ?_
  exact Z04 rfl
 apply Zu (L' := [Zy,Zy,Zy,Zy,Zz,Zz,Zz,Zz,Zz,Zz,Zz,Zz]) 3 (⟨H6.io mem0, H6.iarg hv⟩)
 ·intro wS sS
  refine Zm (Z01 ?_)
  exact Z04 rfl
 apply Zu (L' := [Zy,Zy,Zy,Zy,Zy,Zz,Zz,Zz,Zz,Zz,Zz,Zz]) 4 (⟨H6.io mem0, H6.iarg hv⟩)
 ·intro wS sS
  refine Z1c (j := 1) rfl rfl underlying127 tz83 rfl rfl hv2 ZP ZI ?_
  refine Z01 ?_
  exact Z04 rfl
 apply Zu (L' := [Zy,Zy,Zy,Zy,Zy,Zy,Zz,Zz,Zz,Zz,Zz,Zz]) 5 (⟨H6.io mem0, H6.iarg hv⟩)
 ·intro wS sS
  refine Z1u rfl rfl underlying83 rfl hv2 (by first | exact sS.1 | exact sS.2 | exact H6.io mem0 | exact H6.ibl mem1 | exact H6.iarg hv | assumption) ZA ZI (fun hb2_5 => ?_)
  refine Z01 ?_
  exact Z04 rfl
 apply Zu (L' := [Zy,Zy,Zy,Zy,Zy,Zy,Zz,Zy,Zz,Zz,Zz,Zz]) 7 (⟨H6.io mem0, H6.iarg hv⟩)
 ·intro wS sS
  refine Zm (Z01 ?_)
  exact Z04 rfl
 refine Z2B (L' := [Zy,Zy,Zy,Zy,Zy,Zy,Zy,Zy,Zz,Zz,Zz,Zz]) (L'' := [Zy,Zy,Zy,Zy,Zy,Zy,Zz,Zy,Zy,Zz,Zz,Zz]) 6 8 ZK rfl rfl rfl rfl ?_ ?_
 ·refine Z16 rfl rfl pl85 ta85 (.one rfl rfl ZR (.succ .zero) (.one rfl rfl ZR .zero .nil)) ?_
  refine Z01 ?_
  refine Z0n (⟨H6.io mem0, H6.iarg hv⟩) ?_
  refine Z0v (L' := [Zy,Zy,Zy,Zy,Zy,Zy,Zy,Zy,Zy,Zz,Zz,Zz]) 8 ZK rfl rfl ?_
  refine Zp func70 (bitsR v l n hR ZO w4.drew (H6.iarg hv)) ?_
  refine Z01 ?_
  refine Z0n (⟨H6.io mem0, H6.iarg hv⟩) ?_
  apply Zu (L' := [Zy,Zy,Zy,Zy,Zy,Zy,Zy,Zy,Zy,Zy,Zz,Zz]) 9 (⟨H6.io mem0, H6.iarg hv⟩)
  ·intro wS sS
   refine Zw ?_
   refine Z01 ?_
   exact Z04 rfl
  refine Z0v (L' := [Zy,Zy,Zy,Zy,Zy,Zy,Zy,Zy,Zy,Zy,Zy,Zz]) 10 ZK rfl rfl ?_
  refine Z0m H6 (.tail .head) (.zero (.zero .nil)) rfl tz85 rfl rfl ZC (fun w7 H7 => ?_)
  refine Z01 ?_
  refine Z0n (⟨H7.io mem0, H7.iarg hv⟩) ?_
  apply Zu (L' := [Zy,Zy,Zy,Zy,Zy,Zy,Zy,Zy,Zy,Zy,Zy,Zy]) 11 (⟨H7.io mem0, H7.iarg hv⟩)
  ·intro wS sS
   refine Zg (Z01 ?_)
   exact Z04 rfl
  refine Z0B ZK ?_
  refine Z02 ?_
  refine Zk [2, 3] ?_
  refine Z0i ?_
  refine Z12 results71 (.cell rfl (Z0E H7 mem1 underlying85 rfl tz85 (.take (.take .nil))) (.tmp rfl .nil)) rfl ?_
  refine ⟨_, rfl, ?_⟩
  have H9 := St.del .head (St.del (.tail .head) H7)
  have h0 := Z4c hUw 0
  have h1 := Z4c hUw 1
  have ev : nv (lw ++ [0, 0]) = n := by
   show Ma.vb _ _ = _
   rw [Ma.vb_append]
   simp [Ma.vb]
   exact hcn.val
  rw [ev, Int.pow_zero, Int.ediv_one] at h0
  rw [ev, Int.pow_one] at h1
  refine ⟨?_, H9.grows⟩
  unfold Z44
  rw [h0, h1, show n % 340282366920938463463374607431768211456 / 18446744073709551616 = n / 18446744073709551616 % 18446744073709551616 from by omega, show n % 340282366920938463463374607431768211456 % 18446744073709551616 = n % 18446744073709551616 from by omega]
 refine Zp func70 (bitsR v l n hR ZO w4.drew (H6.iarg hv)) ?_
 refine Z01 ?_
 refine Z0n (⟨H6.io mem0, H6.iarg hv⟩) ?_
 apply Zu (L' := [Zy,Zy,Zy,Zy,Zy,Zy,Zz,Zy,Zy,Zy,Zz,Zz]) 9 (⟨H6.io mem0, H6.iarg hv⟩)
 ·intro wS sS
  refine Zw ?_
  refine Z01 ?_
  exact Z04 rfl
 refine Z0v (L' := [Zy,Zy,Zy,Zy,Zy,Zy,Zy,Zy,Zy,Zy,Zz,Zz]) 6 ZK rfl rfl ?_
 refine Z16 rfl rfl pl85 ta85 (.one rfl rfl ZR (.succ .zero) (.one rfl rfl ZR .zero .nil)) ?_
 refine Z01 ?_
 refine Z0n (⟨H6.io mem0, H6.iarg hv⟩) ?_
 refine Z0v (L' := [Zy,Zy,Zy,Zy,Zy,Zy,Zy,Zy,Zy,Zy,Zy,Zz]) 10 ZK rfl rfl ?_
 refine Z0m H6 (.tail .head) (.zero (.zero .nil)) rfl tz85 rfl rfl ZC (fun w10 H10 => ?_)
 refine Z01 ?_
 refine Z0n (⟨H10.io mem0, H10.iarg hv⟩) ?_
 apply Zu (L' := [Zy,Zy,Zy,Zy,Zy,Zy,Zy,Zy,Zy,Zy,Zy,Zy]) 11 (⟨H10.io mem0, H10.iarg hv⟩)
 ·intro wS sS
  refine Zg (Z01 ?_)
  exact Z04 rfl
 refine Z0B ZK ?_
 refine Z02 ?_
 refine Zk [2, 3] ?_
 refine Z0i ?_
 refine Z12 results71 (.cell rfl (Z0E H10 mem1 underlying85 rfl tz85 (.take (.take .nil))) (.tmp rfl .nil)) rfl ?_
 refine ⟨_, rfl, ?_⟩
 have H12 := St.del .head (St.del (.tail .head) H10)
 have h0 := Z4c hUw 0
 have h1 := Z4c hUw 1
 have ev : nv (lw ++ [0, 0]) = n := by
  show Ma.vb _ _ = _
  rw [Ma.vb_append]
  simp [Ma.vb]
  exact hcn.val
 rw [ev, Int.pow_zero, Int.ediv_one] at h0
 rw [ev, Int.pow_one] at h1
 refine ⟨?_, H12.grows⟩
 unfold Z44
 rw [h0, h1, show n % 340282366920938463463374607431768211456 / 18446744073709551616 = n / 18446744073709551616 % 18446744073709551616 from by omega, show n % 340282366920938463463374607431768211456 % 18446744073709551616 = n % 18446744073709551616 from by omega]
theorem R16_five : R16 [5] 5 := ⟨fun x hx => by rw [List.mem_singleton.1 hx]; omega, ⟨fun _ => by omega, trivial⟩, by decide⟩
theorem fiveR (n : Int) (hn : n ≤ 400) (w : World) :
  Z0f P 69 [.int .i64 n] w fun r w' => ∃ v ls, r = v ∧ R16 ls (5 ^ n.toNat) ∧ Grow w w' [As.ri 3 .i64 v ls] := by
 refine Z0o func69 rfl ntmps69 rfl ?_
 have H0 := St.start w
 refine Z03 (Z00 (Zg (Z01 (Z02 ?_))))
 refine Zk [0] ?_
 refine Z03 (Z00 ?_)
 refine Z2g H0 rfl rfl underlying34 ti3 rfl (.cons rfl ZR .nil) rfl rfl rfl (fun b1_0 w1 H1 => ?_)
 have H2 := H1.blk_own (by decide)
 refine Zg (Z01 (Z02 ?_))
 refine Zk [0, 3] ?_
 refine Z03 (Z03 (Z00 (Zg (Z01 (Z02 (Z0d ?_))))))
 refine Z0z (ι := Nat × List Int × Value) (fun (z0 : Nat × List Int × Value) => match z0 with | ⟨k, lx, vx⟩ => n.toNat - k) (fun (z0 : Nat × List Int × Value) (w' : World) => match z0 with | ⟨k, lx, vx⟩ => St w w.heap.size Z0J ([As.ri 3 .i64 vx lx]) w' ∧ ((k : Int) ≤ n ∨ k = 0) ∧ R16 lx (5 ^ k)) (fun (z0 : Nat × List Int × Value) => match z0 with | ⟨k, lx, vx⟩ => [(3, vx), (4, .int .i64 (k : Int))]) [0] (0, [1], .slice (some ⟨b1_0, 0, none⟩) 1 1) ?_ (.cons rfl .nil) ?_ ?_
 ·exact ⟨H2, .inr rfl, by rw [Int.pow_zero]; exact Z4M⟩
 ·exact (.cons rfl ZN (.cons rfl ZN .nil))
 rintro ⟨k, lx, vx⟩ w3 ⟨H3, hk, hRx⟩
 show RunC P _ _ _ (_ :: _) _
 have hb5 := Z1T k ZO
 have hlx := hRx.len (k := 1203) ZO
 refine Z03 (Z03 (Z00 (Zm (Zm ?_))))
 refine Zl ?_
 refine Z01 (Z02 ?_)
 refine Zk [0, 3, 4, 8] ?_
 (first | refine Z0c rfl ?_ ?_ | refine Z08 rfl ?_ ?_) <;> intro hc0
 ·refine Z0a (Z02 ?_)
  refine Zk [0, 3, 4] ?_
  refine Z03 (Z0d (Z00 (Zm ?_)))
  refine Z2g H3 rfl rfl underlying34 ti3 rfl (.cons rfl ZR .nil) rfl rfl rfl (fun b5_1 w4 H4 => ?_)
  refine Z0I rfl rfl func81 rfl rfl (.cons rfl (.cons rfl .nil)) (prodR _ _ lx [5] _ 5 hRx R16_five ZO (by simp) w4 (H4.io mem1) (H4.ibl mem0)) ?_
  rintro vp w5 ⟨_, lp, rfl, hRp, hG⟩
  have H5 := hG _ _ _ _ H4
  simp only [Zca, Zna] at H5
  refine Zg (Z01 ?_)
  refine Z0F ?_
  refine Z02 ?_
  refine Zk [0, 3, 4] ?_
  refine Z00 (Zm ?_)
  refine Z0y rfl rfl rfl rfl (Z0l ZO) ?_
  refine Zg (Z01 ?_)
  have H7 := St.del (.tail .head) (St.del (.tail (.tail .head)) H5)
  refine Z0p (i := (k, lx, vx)) (k + 1, lp, vp) ?_ ?_ (.cons rfl .nil) ?_
  ·first | omega | (simp; omega)
  ·exact ⟨H7, .inl ZO, by rw [Int.pow_succ]; exact hRp⟩
  exact (.cons rfl ZN (.cons rfl ZN .nil))
 refine Z0H ?_
 refine Z06 ?_
 refine Z06 ?_
 refine Z0h ?_
 refine Z02 ?_
 refine Zk [3] ?_
 refine Z03 (Z00 (Zm (Zg (Z01 (Z02 ?_)))))
 refine Zk [2] ?_
 refine Z0i ?_
 refine Z0e results69 rfl ?_
 refine ⟨_, rfl, ?_⟩
 obtain rfl : n.toNat = k := by omega
 exact ⟨_, _, rfl, hRx, H3.grows⟩
theorem Z2R {l : List Int} {n : Int} (h : R16 l n) {k : Nat} (hb : n < 2 ^ k) : 16 * l.length ≤ k + 16 := h.len (k := k) ((Ma.blen_le_iff (h.nonneg (by omega)) k).2 hb)
theorem e128 : (2 : Int) ^ 128 = 340282366920938463463374607431768211456 := by decide
theorem entryR (q : Int) (hq : -9223372036854775808 ≤ q ∧ q ≤ 9223372036854775807) (w : World) :
  Z0f P 61 [.int .i64 q] w fun r w' => r = .tuple #[Z44 (entS q).1, .int .i64 (entS q).2.1, .int .i64 (entS q).2.2] ∧ Grow w w' [] := by
 refine Z0o func61 rfl ntmps61 rfl ?_
 have H0 := St.start w
 refine Z03 (Z00 ?_)
 refine Z0X H0 ta85 rfl rfl (fun b0_0 w1 H1 => ?_)
 refine Zg (Zg (Z01 (Z02 ?_)))
 refine Zk [0, 2] ?_
 refine Z03 (Z03 (Z00 (Zm ?_)))
 refine Zl ?_
 refine Zm ?_
 apply l_or 2 [0, 2] rfl rfl (.cons rfl (.cons rfl (.cons rfl .nil))) rfl rfl (fun _ => rfl) rfl rfl rfl
 ·intro hg1_3
  refine Zm ?_
  refine Zw ?_
  refine Z01 ?_
  exact Z0O rfl (.cons rfl (ZF hg1_3) (.cons rfl rfl (.cons rfl rfl .nil)))
 refine Z01 (Z02 ?_)
 refine Zk [0, 2, 24] ?_
 (first | refine Z0c rfl ?_ ?_ | refine Z08 rfl ?_ ?_) <;> intro hc0
 ·refine Z03 (Z00 ?_)
  refine Z16 rfl rfl pl85 ta85 .nil ?_
  refine Z0m H1 .head (.zero (.zero .nil)) rfl tz85 rfl rfl ZC (fun w2 H2 => ?_)
  refine Zg (Zg (Z01 (Z02 ?_)))
  refine Zk [2, 3, 4] ?_
  refine Z0i ?_
  refine Z07 ?_
  refine Z12 results61 (.cell rfl (Z0E H2 mem0 underlying85 rfl tz85 (.take (.take .nil))) (.tmp rfl (.tmp rfl .nil))) rfl ?_
  refine ⟨_, rfl, ?_⟩
  have H3 := St.del .head H2
  have e : entS q = (0, 0, 60) := if_pos hc0
  rw [e]
  exact ⟨rfl, H3.grows⟩
 refine Z0a (Z02 ?_)
 refine Zk [0, 2] ?_
 refine Z03 (Z03 (Z00 (Zm ?_)))
 refine Zh ?_
 refine Z01 (Z02 ?_)
 refine Zk [0, 2, 27] ?_
 (first | refine Z0c rfl ?_ ?_ | refine Z08 rfl ?_ ?_) <;> intro hc1
 ·refine Z03 (Z00 (Zm ?_))
  refine Zc func69 (fiveR q ZO w1) ?_
  rintro vx w4 ⟨_, lx, rfl, hRx, hG⟩
  have H4 := hG _ _ _ _ H1
  simp only [Zca, Zna] at H4
  obtain ⟨n, hn⟩ : ∃ n : Nat, q.toNat = n := ⟨_, rfl⟩
  rw [hn] at hRx
  have hb5 := Z1T n ZO
  have hlx := hRx.len (k := 1203) ZO
  have hbp := Ma.blen_pos (Z2A n)
  have habl := abM_lt (Z2A n)
  have een : entS q = (abM (5 ^ n), Ma.blen (5 ^ n) - 128, 0) := by unfold entS; rw [if_neg ZO, if_neg ZO, hn]
  refine Zg (Z01 (Z02 ?_))
  refine Zk [2, 5] ?_
  refine Z03 (Z00 (Zm ?_))
  refine Z13 rfl rfl func70 rfl rfl (.cons rfl .nil) (bitsR vx lx _ hRx ZO w4 (H4.io mem0)) ?_
  refine Zg (Z01 (Z02 ?_))
  refine Zk [2, 5, 6] ?_
  refine Z03 (Z03 (Z00 (Zm ?_)))
  refine Zf ?_
  refine Z01 (Z02 ?_)
  refine Zk [2, 5, 6, 33] ?_
  (first | refine Z0c rfl ?_ ?_ | refine Z08 rfl ?_ ?_) <;> intro hc2
  ·refine Z03 (Z00 (Zm (Zm ?_)))
   refine Z0W rfl rfl rfl rfl (Z0l ZO) ?_
   obtain ⟨k, hk⟩ : ∃ k : Nat, (128 - Ma.blen (5 ^ n)).toNat = k := ⟨_, rfl⟩
   refine Z0j (s := 37) (v' := .int .i64 (k : Int)) rfl (by refine congrArg (Value.int _) ?_; omega) ?_
   have eab : abM (5 ^ n) = 5 ^ n * 2 ^ k := by
    unfold abM
    rcases Int.lt_or_eq_of_le hc2 with h | h
    ·rw [if_pos h, hk]
    rw [if_neg ZO]
    have hk0 : k = 0 := by omega
    rw [hk0, h]
    simp
   refine Z0I rfl rfl func72 rfl rfl (.cons rfl (.cons rfl .nil)) (leftR vx lx _ hRx ZO k ZO w4 (H4.io mem0)) ?_
   rintro vy w5 ⟨_, ly, rfl, hRy, hG⟩
   have H5 := hG _ _ _ _ H4
   simp only [Zca, Zna] at H5
   have hly := Z2R hRy (k := 128) (by rw [← eab, e128]; exact habl.2)
   refine Z0I rfl rfl func71 rfl rfl (.cons rfl .nil) (wideR vy ly _ hRy ZO w5 (H5.io mem0)) ?_
   rintro _ w6 ⟨rfl, hG⟩
   have H6 := hG _ _ _ _ H5
   simp only [Zca, Zna] at H6
   refine Zm ?_
   refine Zx (Zx ?_)
   refine Z0X H6 ta85 rfl rfl (fun b7_8 w7 H7 => ?_)
   refine Z0m H7 .head (.zero (.zero .nil)) rfl tz85 rfl rfl ZC (fun w8 H8 => ?_)
   refine Zg (Z01 (Z02 ?_))
   refine Zk [2, 6, 7] ?_
   refine Z03 (Z00 ?_)
   have hmod : 5 ^ n * 2 ^ k % 340282366920938463463374607431768211456 = abM (5 ^ n) := by rw [← eab]; exact Int.emod_eq_of_lt habl.1 habl.2
   refine Z1b H8 mem0 rfl rfl underlying85 rfl tz85 rfl (.take (.take .nil)) ?_
   refine Zm ?_
   refine Z0W rfl rfl rfl rfl (Z0l ZO) ?_
   refine Z0m H8 (.tail (.tail (.tail .head))) (.zero (.zero .nil)) rfl tz85 rfl rfl ZC (fun w9 H9 => ?_)
   refine Zg (Zg (Z01 (Z02 ?_)))
   refine Zk [2, 3, 4] ?_
   refine Z0i ?_
   refine Z07 ?_
   refine Z07 ?_
   refine Z12 results61 (.cell rfl (Z0E H9 mem3 underlying85 rfl tz85 (.take (.take .nil))) (.tmp rfl (.tmp rfl .nil))) rfl ?_
   refine ⟨_, rfl, ?_⟩
   have H13 := St.del .head (St.del (.tail .head) (St.del (.tail (.tail .head)) (St.del (.tail (.tail (.tail .head))) H9)))
   rw [een, hmod]
   exact ⟨rfl, H13.grows⟩
  refine Z0a (Z02 ?_)
  refine Zk [2, 5, 6] ?_
  refine Z03 (Z00 (Zm (Zm ?_)))
  refine Z0W rfl rfl rfl rfl (Z0l ZO) ?_
  obtain ⟨k, hk⟩ : ∃ k : Nat, (Ma.blen (5 ^ n) - 128).toNat = k := ⟨_, rfl⟩
  refine Z0j (s := 48) (v' := .int .i64 (k : Int)) rfl (by refine congrArg (Value.int _) ?_; omega) ?_
  have eab : abM (5 ^ n) = 5 ^ n / 2 ^ k := by unfold abM; rw [if_neg ZO, hk]
  refine Z0I rfl rfl func73 rfl rfl (.cons rfl (.cons rfl .nil)) (rightR vx lx _ hRx ZO k ZO w4 (H4.io mem0)) ?_
  rintro _ w14 ⟨vy, ly, rfl, hRy, hG⟩
  have H14 := hG _ _ _ _ H4
  simp only [Zca, Zna] at H14
  refine Zm ?_
  refine Zx (Zx (Zg (Zg (Z01 (Z02 ?_)))))
  refine Zk [2, 6, 9] ?_
  refine Z03 (Z00 ?_)
  have hly := Z2R hRy (k := 128) (by rw [← eab, e128]; exact habl.2)
  refine Zm ?_
  refine Z0I rfl rfl func71 rfl rfl (.cons rfl .nil) (wideR vy ly _ hRy ZO w14 (H14.io mem0)) ?_
  rintro _ w15 ⟨rfl, hG⟩
  have H15 := hG _ _ _ _ H14
  simp only [Zca, Zna] at H15
  refine Zm ?_
  refine Zx (Zx ?_)
  refine Z0X H15 ta85 rfl rfl (fun b10_5 w16 H16 => ?_)
  refine Z0m H16 .head (.zero (.zero .nil)) rfl tz85 rfl rfl ZC (fun w17 H17 => ?_)
  refine Zg (Z01 (Z02 ?_))
  refine Zk [2, 6, 11] ?_
  refine Z03 (Z00 ?_)
  have hmod : 5 ^ n / 2 ^ k % 340282366920938463463374607431768211456 = abM (5 ^ n) := by rw [← eab]; exact Int.emod_eq_of_lt habl.1 habl.2
  refine Z1b H17 mem0 rfl rfl underlying85 rfl tz85 rfl (.take (.take .nil)) ?_
  refine Zm ?_
  refine Z0W rfl rfl rfl rfl (Z0l ZO) ?_
  refine Z0m H17 (.tail (.tail (.tail .head))) (.zero (.zero .nil)) rfl tz85 rfl rfl ZC (fun w18 H18 => ?_)
  refine Zg (Zg (Z01 (Z02 ?_)))
  refine Zk [2, 3, 4] ?_
  refine Z0i ?_
  refine Z07 ?_
  refine Z12 results61 (.cell rfl (Z0E H18 mem3 underlying85 rfl tz85 (.take (.take .nil))) (.tmp rfl (.tmp rfl .nil))) rfl ?_
  refine ⟨_, rfl, ?_⟩
  have H22 := St.del .head (St.del (.tail .head) (St.del (.tail (.tail .head)) (St.del (.tail (.tail (.tail .head))) H18)))
  rw [een, hmod]
  exact ⟨rfl, H22.grows⟩
 refine Z0a (Z02 ?_)
 refine Zk [0, 2] ?_
 refine Z03 (Z00 (Zm ?_))
 refine l_neg rfl rfl rfl (Z0l ZO) ?_
 refine Zc func69 (fiveR (0 - q) ZO w1) ?_
 rintro vx w23 ⟨_, lx, rfl, hRx, hG⟩
 have H23 := hG _ _ _ _ H1
 simp only [Zca, Zna] at H23
 obtain ⟨n, hn⟩ : ∃ n : Nat, (-q).toNat = n := ⟨_, rfl⟩
 rw [show (0 - q).toNat = n from by omega] at hRx
 have hb5 := Z1T n ZO
 have hlx := hRx.len (k := 1203) ZO
 have hbp := Ma.blen_pos (Z2A n)
 have hfit : blM (5 ^ n) < 340282366920938463463374607431768211456 := (bl_fit ⟨n, ZO⟩).resolve_left (by show ¬ n = 0; omega)
 have een : entS q = (blM (5 ^ n), -(127 + Ma.blen (5 ^ n)), 0) := by unfold entS; rw [if_neg ZO, if_pos ZO, hn]
 refine Zg (Z01 (Z02 ?_))
 refine Zk [2, 13] ?_
 refine Z03 (Z00 (Zm ?_))
 refine Z13 rfl rfl func70 rfl rfl (.cons rfl .nil) (bitsR vx lx _ hRx ZO w23 (H23.io mem0)) ?_
 refine Zg (Z01 (Z02 ?_))
 refine Zk [2, 13, 14] ?_
 refine Z03 (Z00 ?_)
 refine Z2g H23 rfl rfl underlying34 ti3 rfl (.cons rfl ZR .nil) rfl rfl rfl (fun b14_0 w24 H24 => ?_)
 refine Zm ?_
 refine Z0y rfl rfl rfl rfl (Z0l ZO) ?_
 obtain ⟨k, hk⟩ : ∃ k : Nat, (127 + Ma.blen (5 ^ n)).toNat = k := ⟨_, rfl⟩
 refine Z0j (s := 68) (v' := .int .i64 (k : Int)) rfl (by refine congrArg (Value.int _) ?_; omega) ?_
 have eb : blM (5 ^ n) = 2 ^ k / 5 ^ n + 1 := by unfold blM; rw [hk]
 have hp2 := Ma.pow_pos (show (0 : Int) < 2 by omega) k
 have hqn : (0 : Int) ≤ 2 ^ k / 5 ^ n := Int.ediv_nonneg (Int.le_of_lt hp2) (Int.le_of_lt (Z2A n))
 refine Z0I rfl rfl func72 rfl rfl (.cons rfl (.cons rfl .nil)) (leftR _ [1] 1 Z4M (by simp) k ZO w24 (H24.ibl mem0)) ?_
 rintro vy w25 ⟨_, ly, rfl, hRy, hG⟩
 have H25 := hG _ _ _ _ H24
 simp only [Zca, Zna] at H25
 have hly := Z2R hRy (k := k + 1) (by rw [Int.one_mul, Int.pow_succ]; omega)
 rw [Int.one_mul] at hRy
 refine Zm ?_
 refine Z0I rfl rfl func74 rfl rfl (.cons rfl (.cons rfl .nil)) (overR _ _ ly lx _ _ hRy hRx ZO ZO (Z2A n) w25 (H25.io mem0) (H25.io mem2)) ?_
 rintro _ w26 ⟨vq, vr, lq, lr, rfl, hRq, hRr, hG⟩
 have H26 := hG _ _ _ _ H25
 simp only [Zca, Zna] at H26
 refine Zm ?_
 refine Zx (Zx (Zg (Zg (Z01 (Z02 ?_)))))
 refine Zk [2, 14, 15] ?_
 refine Z03 (Z00 ?_)
 have hlq := Z2R hRq (k := 128) (by rw [e128]; omega)
 refine Zm ?_
 refine Z2g H26 rfl rfl underlying34 ti3 rfl (.cons rfl ZR .nil) rfl rfl rfl (fun b15_1 w27 H27 => ?_)
 refine Z0I rfl rfl func75 rfl rfl (.cons rfl (.cons rfl .nil)) (sumR _ _ lq [1] _ 1 hRq Z4M ZO (by simp) w27 (H27.io mem1) (H27.ibl mem0)) ?_
 rintro vs w28 ⟨_, ls, rfl, hRs, hG⟩
 have H28 := hG _ _ _ _ H27
 simp only [Zca, Zna] at H28
 have hlsm := Z2R hRs (k := 128) (by rw [e128]; omega)
 refine Z0I rfl rfl func71 rfl rfl (.cons rfl .nil) (wideR vs ls _ hRs ZO w28 (H28.io mem0)) ?_
 rintro _ w29 ⟨rfl, hG⟩
 have H29 := hG _ _ _ _ H28
 simp only [Zca, Zna] at H29
 refine Zm ?_
 refine Zx (Zx ?_)
 refine Z0X H29 ta85 rfl rfl (fun b15_7 w30 H30 => ?_)
 refine Z0m H30 .head (.zero (.zero .nil)) rfl tz85 rfl rfl ZC (fun w31 H31 => ?_)
 refine Zg (Z01 (Z02 ?_))
 refine Zk [2, 14, 17] ?_
 refine Z03 (Z00 ?_)
 have hmod : (2 ^ k / 5 ^ n + 1) % 340282366920938463463374607431768211456 = blM (5 ^ n) := by rw [eb]; exact Int.emod_eq_of_lt ZO ZO
 refine Z1b H31 mem0 rfl rfl underlying85 rfl tz85 rfl (.take (.take .nil)) ?_
 refine Zm ?_
 refine Z0y rfl rfl rfl rfl (Z0l ZO) ?_
 refine l_neg rfl rfl rfl (Z0l ZO) ?_
 refine Z0m H31 (.tail (.tail (.tail (.tail (.tail (.tail (.tail (.tail .head)))))))) (.zero (.zero .nil)) rfl tz85 rfl rfl ZC (fun w32 H32 => ?_)
 refine Zg (Zg (Z01 (Z02 ?_)))
 refine Zk [2, 3, 4] ?_
 refine Z0i ?_
 refine Z12 results61 (.cell rfl (Z0E H32 mem8 underlying85 rfl tz85 (.take (.take .nil))) (.tmp rfl (.tmp rfl .nil))) rfl ?_
 refine ⟨_, rfl, ?_⟩
 have H41 := St.del .head (St.del (.tail .head) (St.del (.tail (.tail .head)) (St.del (.tail (.tail (.tail .head))) (St.del (.tail (.tail (.tail (.tail .head)))) (St.del (.tail (.tail (.tail (.tail (.tail .head))))) (St.del (.tail (.tail (.tail (.tail (.tail (.tail .head)))))) (St.del (.tail (.tail (.tail (.tail (.tail (.tail (.tail .head))))))) (St.del (.tail (.tail (.tail (.tail (.tail (.tail (.tail (.tail .head)))))))) H32))))))))
 rw [een, hmod, Int.zero_sub]
 exact ⟨rfl, H41.grows⟩
def Z0K (q : Int) : Int × Int × Int := if q < -342 ∨ 308 < q then (0, 0, 60) else ((q + 342) / 16, (q + 342) % 16, 0)
def Z0M (s : Int) : Int × Int × Int := if s < 0 ∨ 41 ≤ s then (0, 0, 61) else (-342 + 16 * s, if s = 40 then 11 else 16, 0)
theorem whereP (q : Int) (hq : -9223372036854775808 ≤ q ∧ q ≤ 9223372036854775807) (w : World) :
  Z0f P 27 [.int .i64 q] w fun r w' => r = .tuple #[.int .i64 (Z0K q).1, .int .i64 (Z0K q).2.1, .int .i64 (Z0K q).2.2] ∧ w = w' := by
 refine Z0o func27 rfl ntmps27 rfl ?_
 refine Z03 (Z00 (Zg (Zg (Zg (Z01 (Z02 ?_))))))
 refine Zk [0] ?_
 refine Z03 (Z03 (Z00 (Zm ?_)))
 refine Zl ?_
 refine Zm ?_
 apply l_or 2 [0] rfl rfl (.cons rfl (.cons rfl .nil)) rfl rfl (fun _ => rfl) rfl rfl rfl
 ·intro hg1_3
  refine Zm ?_
  refine Zw ?_
  refine Z01 ?_
  exact Z0O rfl (.cons rfl (ZF hg1_3) (.cons rfl rfl .nil))
 refine Z01 (Z02 ?_)
 refine Zk [0, 11] ?_
 (first | refine Z0c rfl ?_ ?_ | refine Z08 rfl ?_ ?_) <;> intro hc0
 ·refine Z03 (Z00 (Zg (Zg (Zg (Z01 (Z02 ?_))))))
  refine Zk [2, 3, 4] ?_
  refine Z0i ?_
  refine Z07 ?_
  refine Z12 results27 (.tmp rfl (.tmp rfl (.tmp rfl .nil))) rfl ?_
  refine ⟨_, rfl, ?_⟩
  have e : Z0K q = (0, 0, 60) := if_pos hc0
  rw [e]
  exact ⟨rfl, rfl⟩
 refine Z0a (Z02 ?_)
 refine Zk [0] ?_
 refine Z03 (Z00 (Zm ?_))
 refine Z0W rfl rfl rfl rfl (Z0l ZO) ?_
 refine Zg (Z01 (Z02 ?_))
 refine Zk [5] ?_
 refine Z03 (Z00 (Zm ?_))
 refine Z2D rfl rfl rfl rfl ZO (Z35 ZO) ?_
 refine Zm ?_
 refine Z2e rfl rfl rfl rfl ZO (Z2E ZO) ?_
 refine Zg (Zg (Zg (Z01 (Z02 ?_))))
 refine Zk [2, 3, 4] ?_
 refine Z0i ?_
 refine Z12 results27 (.tmp rfl (.tmp rfl (.tmp rfl .nil))) rfl ?_
 refine ⟨_, rfl, ?_⟩
 have e : Z0K q = ((q + 342) / 16, (q + 342) % 16, 0) := if_neg hc0
 rw [e, Int.sub_neg]
 exact ⟨rfl, rfl⟩
theorem whereR (q : Int) (hq : -9223372036854775808 ≤ q ∧ q ≤ 9223372036854775807) (w : World) :
  Z0f P 30 [.int .i64 q] w fun r w' => r = .tuple #[.int .i64 (Z0K q).1, .int .i64 (Z0K q).2.1, .int .i64 (Z0K q).2.2] ∧ w = w' := by
 refine Z0o func30 rfl ntmps30 rfl ?_
 refine Z03 (Z00 (Zg (Zg (Zg (Z01 (Z02 ?_))))))
 refine Zk [0] ?_
 refine Z03 (Z03 (Z00 (Zm ?_)))
 refine Zl ?_
 refine Zm ?_
 apply l_or 2 [0] rfl rfl (.cons rfl (.cons rfl .nil)) rfl rfl (fun _ => rfl) rfl rfl rfl
 ·intro hg1_3
  refine Zm ?_
  refine Zw ?_
  refine Z01 ?_
  exact Z0O rfl (.cons rfl (ZF hg1_3) (.cons rfl rfl .nil))
 refine Z01 (Z02 ?_)
 refine Zk [0, 10] ?_
 (first | refine Z0c rfl ?_ ?_ | refine Z08 rfl ?_ ?_) <;> intro hc0
 ·refine Z03 (Z00 (Zg (Zg (Zg (Z01 (Z02 ?_))))))
  refine Zk [2, 3, 4] ?_
  refine Z0i ?_
  refine Z07 ?_
  refine Z12 results30 (.tmp rfl (.tmp rfl (.tmp rfl .nil))) rfl ?_
  refine ⟨_, rfl, ?_⟩
  have e : Z0K q = (0, 0, 60) := if_pos hc0
  rw [e]
  exact ⟨rfl, rfl⟩
 refine Z0a (Z02 ?_)
 refine Zk [0] ?_
 refine Z03 (Z00 (Zm ?_))
 refine Z0W rfl rfl rfl rfl (Z0l ZO) ?_
 refine Z2D rfl rfl rfl rfl ZO (Z35 ZO) ?_
 refine Zm ?_
 refine Z0W rfl rfl rfl rfl (Z0l ZO) ?_
 refine Z2e rfl rfl rfl rfl ZO (Z2E ZO) ?_
 refine Zg (Zg (Zg (Z01 (Z02 ?_))))
 refine Zk [2, 3, 4] ?_
 refine Z0i ?_
 refine Z12 results30 (.tmp rfl (.tmp rfl (.tmp rfl .nil))) rfl ?_
 refine ⟨_, rfl, ?_⟩
 have e : Z0K q = ((q + 342) / 16, (q + 342) % 16, 0) := if_neg hc0
 rw [e, Int.sub_neg]
 exact ⟨rfl, rfl⟩
theorem firstP (s : Int) (hs : -9223372036854775808 ≤ s ∧ s ≤ 9223372036854775807) (w : World) :
  Z0f P 77 [.int .i64 s] w fun r w' => r = .tuple #[.int .i64 (Z0M s).1, .int .i64 (Z0M s).2.1, .int .i64 (Z0M s).2.2] ∧ w = w' := by
 refine Z0o func77 rfl ntmps77 rfl ?_
 refine Z03 (Z00 (Zg (Zg (Zg (Z01 (Z02 ?_))))))
 refine Zk [0] ?_
 refine Z03 (Z03 (Z00 (Zm ?_)))
 refine Zl ?_
 refine Zm ?_
 apply l_or 2 [0] rfl rfl (.cons rfl (.cons rfl .nil)) rfl rfl (fun _ => rfl) rfl rfl rfl
 ·intro hg1_3
  refine Zm ?_
  refine Zh ?_
  refine Z01 ?_
  exact Z0O rfl (.cons rfl (ZF hg1_3) (.cons rfl rfl .nil))
 refine Z01 (Z02 ?_)
 refine Zk [0, 10] ?_
 (first | refine Z0c rfl ?_ ?_ | refine Z08 rfl ?_ ?_) <;> intro hc0
 ·refine Z03 (Z00 (Zg (Zg (Zg (Z01 (Z02 ?_))))))
  refine Zk [2, 3, 4] ?_
  refine Z0i ?_
  refine Z07 ?_
  refine Z12 results77 (.tmp rfl (.tmp rfl (.tmp rfl .nil))) rfl ?_
  refine ⟨_, rfl, ?_⟩
  have e : Z0M s = (0, 0, 61) := if_pos hc0
  rw [e]
  exact ⟨rfl, rfl⟩
 refine Z0a (Z02 ?_)
 refine Zk [0] ?_
 refine Z03 (Z00 (Zm ?_))
 refine Z20 rfl rfl rfl rfl (Z0l ZO) ?_
 refine Z0y rfl rfl rfl rfl (Z0l ZO) ?_
 refine Zg (Z01 (Z02 ?_))
 refine Zk [2] ?_
 refine Z03 (Z00 (Zm (Zm ?_)))
 refine Z0W rfl rfl rfl rfl (Z0l ZO) ?_
 refine l_min rfl rfl rfl rfl ?_
 refine Zg (Zg (Zg (Z01 (Z02 ?_))))
 refine Zk [2, 3, 4] ?_
 refine Z0i ?_
 refine Z12 results77 (.tmp rfl (.tmp rfl (.tmp rfl .nil))) rfl ?_
 refine ⟨_, rfl, ?_⟩
 have e : Z0M s = (-342 + 16 * s, if s = 40 then 11 else 16, 0) := if_neg hc0
 rw [e, show min 16 (309 - (-342 + 16 * s)) = (if s = 40 then 11 else 16) from by split <;> omega]
 exact ⟨rfl, rfl⟩
theorem firstR (s : Int) (hs : -9223372036854775808 ≤ s ∧ s ≤ 9223372036854775807) (w : World) :
  Z0f P 76 [.int .i64 s] w fun r w' => r = .tuple #[.int .i64 (Z0M s).1, .int .i64 (Z0M s).2.1, .int .i64 (Z0M s).2.2] ∧ w = w' := by
 refine Z0o func76 rfl ntmps76 rfl ?_
 refine Z03 (Z00 (Zg (Zg (Zg (Z01 (Z02 ?_))))))
 refine Zk [0] ?_
 refine Z03 (Z03 (Z00 (Zm ?_)))
 refine Zl ?_
 refine Zm ?_
 apply l_or 2 [0] rfl rfl (.cons rfl (.cons rfl .nil)) rfl rfl (fun _ => rfl) rfl rfl rfl
 ·intro hg1_3
  refine Zm ?_
  refine Zh ?_
  refine Z01 ?_
  exact Z0O rfl (.cons rfl (ZF hg1_3) (.cons rfl rfl .nil))
 refine Z01 (Z02 ?_)
 refine Zk [0, 11] ?_
 (first | refine Z0c rfl ?_ ?_ | refine Z08 rfl ?_ ?_) <;> intro hc0
 ·refine Z03 (Z00 (Zg (Zg (Zg (Z01 (Z02 ?_))))))
  refine Zk [2, 3, 4] ?_
  refine Z0i ?_
  refine Z07 ?_
  refine Z12 results76 (.tmp rfl (.tmp rfl (.tmp rfl .nil))) rfl ?_
  refine ⟨_, rfl, ?_⟩
  have e : Z0M s = (0, 0, 61) := if_pos hc0
  rw [e]
  exact ⟨rfl, rfl⟩
 refine Z0a (Z02 ?_)
 refine Zk [0] ?_
 refine Z03 (Z00 (Zg (Z01 (Z02 ?_))))
 refine Z1q (ι := Int) (fun (n : Int) (w' : World) => w = w' ∧ n = if s = 40 then 11 else 16) (fun (n : Int) => [(5, .int .i64 n)]) [0] (.cons rfl .nil) ?_ ?_
 ·refine Z03 (Z00 (Zm ?_))
  refine Ze ?_
  refine Z01 (Z02 ?_)
  refine Zk [0, 5, 13] ?_
  (first | refine Z0c rfl ?_ ?_ | refine Z08 rfl ?_ ?_) <;> intro hc1
  ·refine Z00 (Zm ?_)
   refine Z20 rfl rfl rfl rfl (Z0l ZO) ?_
   refine Z0W rfl rfl rfl rfl (Z0l ZO) ?_
   refine Zg (Z01 ?_)
   refine Z0w (651 - 16 * s) ?_ (.cons rfl .nil) ?_
   ·exact ⟨rfl, by rw [if_pos hc1]; omega⟩
   exact (.cons rfl ZN .nil)
  refine Z0a ?_
  refine Z0w (16) ?_ (.cons rfl .nil) ?_
  ·exact ⟨rfl, by rw [if_neg hc1]⟩
  exact (.cons rfl ZN .nil)
 rintro n _ ⟨rfl, hn⟩
 show RunC P _ _ _ (_ :: _) _
 refine Z03 (Z00 (Zm ?_))
 refine Z20 rfl rfl rfl rfl (Z0l ZO) ?_
 refine Z0y rfl rfl rfl rfl (Z0l ZO) ?_
 refine Zm (Zg (Zg (Zg (Z01 (Z02 ?_)))))
 refine Zk [2, 3, 4] ?_
 refine Z0i ?_
 refine Z12 results76 (.tmp rfl (.tmp rfl (.tmp rfl .nil))) rfl ?_
 refine ⟨_, rfl, ?_⟩
 have e : Z0M s = (-342 + 16 * s, if s = 40 then 11 else 16, 0) := if_neg hc0
 rw [e, hn]
 exact ⟨rfl, rfl⟩
end Go.Proofs.YtgfkagaacdblbaaGreat.W
