/- walks of power.words, powers and what it gives -/
import Derived.Test.YtgjgahmhoflgcaaGreatDoorVr
import Derived.Test.YtgjgahmhoflgcaaGreatDoorNa
set_option linter.unusedVariables false
set_option linter.unusedSimpArgs false
set_option maxRecDepth 10000
namespace Go.Proofs.YtgjgahmhoflgcaaGreatDoor.W
open Go.Vc Go.RowKit Tryz
abbrev Z44 (n : Int) : Value := .agg #[.int .u64 (n / 18446744073709551616), .int .u64 (n % 18446744073709551616)]
theorem wide_words : ∀ {ls : List Int}, U ls → ls.length ≤ 2 → (if 1 < ls.length then ls.getD 1 0 else 0) = nv ls / 18446744073709551616 ∧ (if 0 < ls.length then ls.getD 0 0 else 0) = nv ls % 18446744073709551616
 | [], _, _ => by decide
 | [a], h, _ => by
  have ha := h a (.head _)
  simp [Ma.vb]
  omega
 | [a, b], h, _ => by
  have ha := h a (.head _)
  have hb := h b (.tail _ (.head _))
  simp [Ma.vb]
  omega
 | _ :: _ :: _ :: _, _, h => by simp at h
set_option exponentiation.threshold 2000 in
theorem Z1T (n : Nat) (h : n ≤ 401) : Ma.blen (5 ^ n) ≤ 1203 := by
 have hp : ∀ n : Nat, (0 : Int) ≤ 5 ^ n ∧ (5 : Int) ^ n ≤ 8 ^ n := by
  intro n
  induction n with
  | zero => decide
  | succ n ih =>
   rw [Int.pow_succ, Int.pow_succ]
   have := ih.1
   have := ih.2
   omega
 have h1 := hp n
 refine (Ma.blen_le_iff h1.1 1203).2 ?_
 have h2 : (8 : Int) ^ n = 2 ^ (3 * n) := by rw [Int.pow_mul]; rfl
 have h3 := Ma.pow_mono (show (1 : Int) ≤ 2 by omega) (show 3 * n + 0 ≤ 1203 by omega)
 have h4 : (5 : Int) ^ n < 8 ^ n ∨ n = 0 := by
  rcases Nat.eq_zero_or_pos n with h | h
  ·exact .inr h
  refine .inl ?_
  obtain ⟨m, rfl⟩ : ∃ m, n = m + 1 := ⟨n - 1, ZO⟩
  have := hp m
  have hp5 := Ma.pow_pos (show (0 : Int) < 5 by omega) m
  rw [Int.pow_succ, Int.pow_succ]
  omega
 rcases h4 with h4 | h4
 ·rw [h2] at h4
  exact Int.lt_of_lt_of_le h4 (by simpa using h3)
 subst h4
 exact Int.lt_of_lt_of_le (show (5 : Int) ^ 0 < 2 ^ 1 by decide) (Ma.pow_mono ZO ZO)
theorem powF {n : Nat} (hn : n ≤ 401) {w : World} : Z0f P 247 [.int .u64 5, .int .i64 (n : Int)] w fun r w' => ∃ v ls, r = .tuple #[v, .int .i64 0] ∧ Ma.Cn 18446744073709551616 ls (5 ^ n) ∧ Grow w w' [As.ri 24 .u64 v ls] := by
 refine (powN 5 n ZO ZO w).mono ?_
 intro r w' h
 have hb := Z1T n hn
 rw [Z4P ZO (by rw [Int.toNat_natCast]; omega), Int.toNat_natCast] at h
 exact h
theorem Uone {x : Int} (h : 0 ≤ x ∧ x ≤ 18446744073709551615) : U [x] := fun y hy => by rw [List.mem_singleton.1 hy]; exact h
theorem nvone (x : Int) : nv [x] = x := by simp [Ma.vb]
theorem Cnone {x : Int} (h : 0 < x ∧ x ≤ 18446744073709551615) : Ma.Cn 18446744073709551616 [x] x := ⟨(Uone (by omega)).dg, ⟨fun _ => by omega, trivial⟩, by simp [Ma.vb]⟩
theorem wordsP (v : Value) (ls : List Int) (hU : U ls) (hL : ls.length ≤ 2) (w : World) (hv : IV w v (ints .u64 ls)) :
  Z0f P 314 [v] w fun r w' => r = Z44 (nv ls) ∧ Grow w w' [] := by
 refine Z0o func314 rfl ntmps314 rfl ?_
 have H0 := St.start w
 refine Z03 (Z00 ?_)
 refine Z0X H0 ta270 rfl rfl (fun b0_0 w1 H1 => ?_)
 refine Z01 (Z02 (Z03 (Z00 ?_)))
 refine Z16 rfl rfl pl270 ta270 .nil ?_
 refine Z0X H1 ta270 rfl rfl (fun b1_1 w2 H2 => ?_)
 refine Z0m H2 .head (.zero (.zero .nil)) rfl Z5j rfl rfl ZC (fun w3 H3 => ?_)
 refine Z01 (Z02 ?_)
 refine Zk [0, 2, 3] ?_
 refine Z03 (Z03 (Z00 (Zm ?_)))
 refine Z0u rfl rfl underlying155 rfl (by first | exact H3.ibl mem0 | exact H3.ibl mem1 | exact H3.iarg hv | assumption) ?_
 refine Zm (Z01 (Z02 ?_))
 refine Zk [2, 3, 7, 8, 9] ?_
 refine Z0d ?_
 refine Z0z (ι := Nat × Int × Int) (fun (z0 : Nat × Int × Int) => match z0 with | ⟨i, hi, lo⟩ => ls.length - i) (fun (z0 : Nat × Int × Int) (w' : World) => match z0 with | ⟨i, hi, lo⟩ => St w w.heap.size Z0J ([As.blk b1_1 270 [.int .u64 hi, .int .u64 lo], As.blk b0_0 270 [.int .u64 0, .int .u64 0]]) w' ∧ i ≤ ls.length ∧ hi = (if 1 < i then ls.getD 1 0 else 0) ∧ lo = (if 0 < i then ls.getD 0 0 else 0)) (fun (z0 : Nat × Int × Int) => match z0 with | ⟨i, hi, lo⟩ => [(9, .int .i64 (i : Int))]) [2, 3, 7, 8] (0, 0, 0) ?_ (.cons rfl (.cons rfl (.cons rfl (.cons rfl .nil)))) ?_ ?_
 ·exact ⟨H3, ZO, rfl, rfl⟩
 ·exact (.cons rfl ZN .nil)
 rintro ⟨i, hi, lo⟩ w4 ⟨H4, hi1, hhi, hlo⟩
 show RunC P _ _ _ (_ :: _) _
 refine Z03 (Z00 ?_)
 refine Zl ?_
 refine Z01 (Z02 (Z03 ?_))
 (first | refine Z0c rfl ?_ ?_ | refine Z08 rfl ?_ ?_) <;> intro hc0
 ·refine Z0a (Z02 ?_)
  refine Zk [2, 3, 7, 8, 9] ?_
  refine Z03 (Z0d (Z03 (Z00 (Zm ?_))))
  refine Z0T (j := i) rfl rfl rfl rfl underlying155 tz24 underlying24 rfl rfl (by first | exact H4.ibl mem0 | exact H4.ibl mem1 | exact H4.iarg hv | assumption) ZA rfl ZO ZI (fun hb4_1 => ?_)
  refine Zg (Zg (Z01 (Z02 ?_)))
  refine Zk [2, 3, 4, 5, 7, 8, 9] ?_
  refine Z03 (Z00 (Zm ?_))
  refine Ze ?_
  refine Z01 (Z02 ?_)
  refine Zk [2, 3, 5, 7, 8, 9, 15] ?_
  (first | refine Z0c rfl ?_ ?_ | refine Z08 rfl ?_ ?_) <;> intro hc1
  ·refine Z00 (Zm (Z09 fo270_1 rfl rfl rfl ?_))
   refine Z0s H4 .head (by repeat (first | exact .zero | apply Z1F.succ)) rfl tz24 rfl rfl ZR (fun w5 H5 => ?_)
   refine Z01 ?_
   refine Z0F ?_
   refine Z02 ?_
   refine Zk [2, 3, 7, 8, 9] ?_
   refine Z00 ?_
   refine Z0y rfl rfl rfl rfl (Z0l ZO) ?_
   refine Zm (Z01 ?_)
   refine Z0p (i := (i, hi, lo)) (i + 1, hi, ls.getD i 0) ?_ ?_ (.cons rfl (.cons rfl (.cons rfl (.cons rfl .nil)))) ?_
   ·first | omega | (simp; omega)
   ·have hz : i = 0 := by omega
    subst hz
    exact ⟨H5, ZO, by rw [hhi]; rfl, rfl⟩
   exact (.cons rfl ZN .nil)
  refine Z00 (Zm (Z09 fo270_0 rfl rfl rfl ?_))
  refine Z0s H4 .head (by repeat (first | exact .zero | apply Z1F.succ)) rfl tz24 rfl rfl ZR (fun w6 H6 => ?_)
  refine Z01 ?_
  refine Z0F ?_
  refine Z02 ?_
  refine Zk [2, 3, 7, 8, 9] ?_
  refine Z00 ?_
  refine Z0y rfl rfl rfl rfl (Z0l ZO) ?_
  refine Zm (Z01 ?_)
  refine Z0p (i := (i, hi, lo)) (i + 1, ls.getD i 0, lo) ?_ ?_ (.cons rfl (.cons rfl (.cons rfl (.cons rfl .nil)))) ?_
  ·first | omega | (simp; omega)
  ·have hz : i = 1 := by omega
   subst hz
   exact ⟨H6, ZO, rfl, by rw [hlo]; rfl⟩
  exact (.cons rfl ZN .nil)
 refine Z0H ?_
 refine Z06 ?_
 refine Z06 ?_
 refine Z0h ?_
 refine Z02 ?_
 refine Zk [2, 3] ?_
 refine Z03 (Z00 ?_)
 refine Z1b H4 mem0 rfl rfl underlying270 rfl Z5j rfl (.take (.take .nil)) ?_
 refine Z0m H4 (.tail .head) (.zero (.zero .nil)) rfl Z5j rfl rfl ZC (fun w7 H7 => ?_)
 refine Z01 (Z02 ?_)
 refine Zk [2] ?_
 refine Z0i ?_
 refine Z2n results314 (.cell rfl (Z0E H7 mem1 underlying270 rfl Z5j (.take (.take .nil))) .nil) ?_
 refine ⟨_, rfl, ?_⟩
 have H9 := St.del .head (St.del (.tail .head) H7)
 obtain rfl : i = ls.length := by omega
 have hww := wide_words hU hL
 rw [← hhi, ← hlo] at hww
 exact ⟨by unfold Z44; rw [← hww.1, ← hww.2], H9.grows⟩
theorem powersP (n : Nat) (hn : n ≤ 400) (w : World) :
  Z0f P 301 [.int .i64 (n : Int)] w fun r w' => ∃ b vl ls, r = .func (.func 313) #[] #[.pointer (some ⟨b, 0, none⟩)] ∧ Ma.Cn 18446744073709551616 ls (5 ^ n) ∧ Grow w w' [As.blk b 155 [vl], As.ri 24 .u64 vl ls] := by
 refine Z0o func301 rfl ntmps301 rfl ?_
 have H0 := St.start w
 refine Z03 (Z00 (Zg (Z01 (Z02 ?_))))
 refine Zk [0] ?_
 refine Z03 (Z00 (Zm ?_))
 refine Zc func247 (powF (n := n) ZO (w := w)) ?_
 rintro _ w1 ⟨vl, ls, rfl, hcn, hG⟩
 have H1 := hG _ _ _ _ H0
 simp only [Zca, Zna] at H1
 have hone1 := Z52 (H1.io mem0)
 refine Zm ?_
 refine Zx (Zx ?_)
 refine Z0X H1 ta155 rfl rfl (fun b1_5 w2 H2 => ?_)
 refine Z0s H2 .head (by repeat (first | exact .zero | apply Z1F.succ)) rfl tz155 rfl rfl ZR (fun w3 H3 => ?_)
 refine Zg (Z01 (Z02 ?_))
 refine Zk [3] ?_
 refine Z03 (Z00 ?_)
 refine Z1I rfl rfl (.cons rfl .nil) ?_
 refine Zg (Z01 (Z02 ?_))
 refine Zk [2] ?_
 refine Z0i ?_
 refine Z0e results301 rfl ?_
 refine ⟨_, rfl, ?_⟩
 have H5 := St.front1 (St.front1 H3)
 exact ⟨_, _, _, rfl, hcn, H5.grows⟩
theorem nextP (b : Nat) (vl : Value) (ls : List Int) (n : Nat) (hn : n ≤ 400) (hc : Ma.Cn 18446744073709551616 ls (5 ^ n)) (w : World) (hS : Sep w.heap.size (fps [As.blk b 155 [vl], As.ri 24 .u64 vl ls]) w [As.blk b 155 [vl], As.ri 24 .u64 vl ls]) :
  Z0f P 313 [.pointer (some ⟨b, 0, none⟩)] w fun r w' => vl = r ∧ ∃ vm lm, Ma.Cn 18446744073709551616 lm (5 ^ (n + 1)) ∧ Z1C w w' [As.blk b 155 [vl], As.ri 24 .u64 vl ls] [As.blk b 155 [vm], As.ri 24 .u64 vm lm, As.ri 24 .u64 vl ls] := by
 refine Z0o func313 rfl ntmps313 rfl ?_
 have H0 := St.startS hS
 have hb0 := Z1T n ZO
 have hb1 := Z1T (n + 1) ZO
 have hll := Z3x hc (k := 1203) ZO
 have ev : nv ls = 5 ^ n := hc.val
 refine Z03 (Z00 (Zg (Z01 (Z02 ?_))))
 refine Zk [0] ?_
 refine Z03 (Z00 ?_)
 refine Z05 H0 mem0 rfl rfl underlying155 rfl rfl rfl ?_
 refine Zg (Z01 (Z02 ?_))
 refine Zk [0, 2] ?_
 refine Z03 (Z00 (Zm ?_))
 refine Z2g H0 rfl rfl underlying155 ti24 rfl (.cons rfl ZR .nil) rfl rfl rfl (fun b2_1 w1 H1 => ?_)
 refine Zc func242 (mulS (cnU hc) (Uone (x := 5) ZO) ZO (by simp) (by rw [ev]; omega) (by rw [nvone]; decide) (by rw [ev, nvone, ← Int.pow_succ]; exact Int.le_trans hb1 ZO) (H1.io mem2) (H1.ibl mem0)) ?_
 rintro _ w2 ⟨vm, lm, rfl, hm, hG⟩
 have H2 := hG _ _ _ _ H1
 simp only [Zca, Zna] at H2
 have hone1 := Z52 (H2.io mem0)
 refine Zm ?_
 refine Zx (Zx ?_)
 refine Z0s H2 (.tail (.tail .head)) (by repeat (first | exact .zero | apply Z1F.succ)) rfl tz155 rfl rfl ZR (fun w3 H3 => ?_)
 refine Z01 (Z02 ?_)
 refine Zk [2] ?_
 refine Z03 (Z00 (Zm (Zg (Z01 (Z02 ?_)))))
 refine Zk [1] ?_
 refine Z0i ?_
 refine Z0e results313 rfl ?_
 refine ⟨_, rfl, ?_⟩
 have H7 := St.del (.tail (.tail (.tail .head))) (St.front3 (St.front1 (St.front3 H3)))
 rw [ev, nvone, ← Int.pow_succ] at hm
 exact ⟨rfl, _, _, hm, St.transS (τ' := [As.blk b 155 [vm], As.ri 24 .u64 vm lm, As.ri 24 .u64 vl ls]) H7⟩
def abM (X : Int) : Int := if Ma.blen X < 128 then X * 2 ^ (128 - Ma.blen X).toNat else X / 2 ^ (Ma.blen X - 128).toNat
def blM (X : Int) : Int := 2 ^ (127 + Ma.blen X).toNat / X + 1
theorem abM_lt {X : Int} (h : 0 < X) : 0 ≤ abM X ∧ abM X < 340282366920938463463374607431768211456 := by
 have hb := (Ma.blen_le_iff (Int.le_of_lt h) (Ma.blen X).toNat).1 (by have := Ma.blen_nonneg X; omega)
 have hb0 := Ma.blen_nonneg X
 have e128 : (2 : Int) ^ 128 = 340282366920938463463374607431768211456 := by decide
 unfold abM
 split
 ·rename_i h1
  have hp := Ma.pow_pos (show (0 : Int) < 2 by omega) (128 - Ma.blen X).toNat
  have h2 : X * 2 ^ (128 - Ma.blen X).toNat < 2 ^ (Ma.blen X).toNat * 2 ^ (128 - Ma.blen X).toNat := Int.mul_lt_mul_of_pos_right hb hp
  rw [← Int.pow_add, show (Ma.blen X).toNat + (128 - Ma.blen X).toNat = 128 from by omega, e128] at h2
  exact ⟨Int.mul_nonneg (Int.le_of_lt h) (Int.le_of_lt hp), h2⟩
 rename_i h1
 have hp := Ma.pow_pos (show (0 : Int) < 2 by omega) (Ma.blen X - 128).toNat
 refine ⟨Int.ediv_nonneg (Int.le_of_lt h) (Int.le_of_lt hp), Int.ediv_lt_of_lt_mul hp ?_⟩
 rw [← e128, ← Int.pow_add, show 128 + (Ma.blen X - 128).toNat = (Ma.blen X).toNat from by omega]
 exact hb
def entS (q : Int) : Int × Int × Int := if q < -342 ∨ 308 < q then (0, 0, 60) else if q < 0 then (blM (5 ^ (-q).toNat), -(127 + Ma.blen (5 ^ (-q).toNat)), 0) else (abM (5 ^ q.toNat), Ma.blen (5 ^ q.toNat) - 128, 0)
theorem bl_fit : ∀ n : Fin 343, n.val = 0 ∨ blM (5 ^ n.val) < 340282366920938463463374607431768211456 := by decide +kernel
theorem five_pos (n : Nat) : (0 : Int) < 5 ^ n := Ma.pow_pos (by omega) n
theorem aboveP (v : Value) (ls : List Int) (X : Int) (hc : Ma.Cn 18446744073709551616 ls X) (hx : 0 < X) (hb : Ma.blen X ≤ 1203) (w : World) (hv : IV w v (ints .u64 ls)) :
  Z0f P 303 [v] w fun r w' => r = .tuple #[Z44 (abM X), .int .i64 (Ma.blen X - 128)] ∧ Grow w w' [] := by
 refine Z0o func303 rfl ntmps303 rfl ?_
 have H0 := St.start w
 have hll := Z3x hc (k := 1203) hb
 have hbp := Ma.blen_pos hx
 have habl := abM_lt hx
 refine Z03 (Z00 ?_)
 refine Z0X H0 ta270 rfl rfl (fun b0_0 w1 H1 => ?_)
 refine Zg (Z01 (Z02 ?_))
 refine Zk [0, 2] ?_
 refine Z03 (Z00 (Zm ?_))
 refine Zp func250 (lenZ hc ZO (H1.iarg hv)) ?_
 refine Z0W rfl rfl rfl rfl (Z0l ZO) ?_
 refine Zg (Z01 (Z02 ?_))
 refine Zk [0, 2, 4] ?_
 refine Z03 (Z03 (Z00 (Zm ?_)))
 refine Zl ?_
 refine Z01 (Z02 ?_)
 refine Zk [0, 2, 4, 14] ?_
 (first | refine Z0c rfl ?_ ?_ | refine Z08 rfl ?_ ?_) <;> intro hc0
 ·refine Z03 (Z00 (Zm (Zm ?_)))
  refine Z5M rfl rfl rfl (Z0l ZO) ?_
  obtain ⟨k, hk⟩ : ∃ k : Nat, (128 - Ma.blen X).toNat = k := ⟨_, rfl⟩
  refine Z0j (s := 18) (v' := .int .i64 (k : Int)) rfl (by refine congrArg (Value.int _) ?_; omega) ?_
  have eab : abM X = X * 2 ^ k := by unfold abM; rw [if_pos ZO, hk]
  refine Zc func249 (shlZ (k := k) hc hx ZO ZO (H1.iarg hv)) ?_
  rintro _ w2 ⟨vm, lm, rfl, hm, hG⟩
  have H2 := hG _ _ _ _ H1
  simp only [Zca, Zna] at H2
  refine Zm ?_
  refine Zx (Zx (Zg (Zg (Z01 (Z02 ?_)))))
  refine Zk [2, 4, 5] ?_
  refine Z03 (Z00 (Zm ?_))
  refine Zc func314 (wordsP vm lm (cnU hm) (cn_len2 hm (by rw [← eab]; exact habl.2)) w2 (H2.io mem0)) ?_
  rintro _ w3 ⟨rfl, hG⟩
  have H3 := hG _ _ _ _ H2
  simp only [Zca, Zna] at H3
  refine Zm ?_
  refine Z0m H3 (.tail .head) (.zero (.zero .nil)) rfl Z5j rfl rfl ZC (fun w4 H4 => ?_)
  refine Zg (Z01 (Z02 ?_))
  refine Zk [2, 3] ?_
  refine Z0i ?_
  refine Z07 ?_
  refine Z12 results303 (.cell rfl (Z0E H4 mem1 underlying270 rfl Z5j (.take (.take .nil))) (.tmp rfl .nil)) rfl ?_
  refine ⟨_, rfl, ?_⟩
  have H6 := St.del .head (St.del (.tail .head) H4)
  exact ⟨by rw [show nv lm = abM X from hm.val.trans eab.symm], H6.grows⟩
 refine Z0a (Z02 ?_)
 refine Zk [0, 2, 4] ?_
 refine Z03 (Z00 (Zm (Zm ?_)))
 obtain ⟨k, hk⟩ : ∃ k : Nat, (Ma.blen X - 128).toNat = k := ⟨_, rfl⟩
 refine Z0j (s := 27) (v' := .int .i64 (k : Int)) rfl (by refine congrArg (Value.int _) ?_; omega) ?_
 have eab : abM X = X / 2 ^ k := by unfold abM; rw [if_neg ZO, hk]
 refine Zc func315 (shrZ (k := k) hc ZO ZO (H1.iarg hv)) ?_
 rintro _ w7 ⟨vm, lm, bm, rfl, hm, hG⟩
 have H7 := hG _ _ _ _ H1
 simp only [Zca, Zna] at H7
 refine Zm ?_
 refine Zx (Zx (Zx (Zg (Zg (Zg (Z01 (Z02 ?_)))))))
 refine Zk [2, 4, 7] ?_
 refine Z03 (Z00 (Zm ?_))
 refine Zc func314 (wordsP vm lm (cnU hm) (cn_len2 hm (by rw [← eab]; exact habl.2)) w7 (H7.io mem0)) ?_
 rintro _ w8 ⟨rfl, hG⟩
 have H8 := hG _ _ _ _ H7
 simp only [Zca, Zna] at H8
 refine Zm ?_
 refine Z0m H8 (.tail .head) (.zero (.zero .nil)) rfl Z5j rfl rfl ZC (fun w9 H9 => ?_)
 refine Zg (Z01 (Z02 ?_))
 refine Zk [2, 3] ?_
 refine Z0i ?_
 refine Z12 results303 (.cell rfl (Z0E H9 mem1 underlying270 rfl Z5j (.take (.take .nil))) (.tmp rfl .nil)) rfl ?_
 refine ⟨_, rfl, ?_⟩
 have H11 := St.del .head (St.del (.tail .head) H9)
 exact ⟨by rw [show nv lm = abM X from hm.val.trans eab.symm], H11.grows⟩
theorem belowP (v : Value) (ls : List Int) (X : Int) (hc : Ma.Cn 18446744073709551616 ls X) (hx : 0 < X) (hb : Ma.blen X ≤ 1203) (hfit : blM X < 340282366920938463463374607431768211456) (w : World) (hv : IV w v (ints .u64 ls)) :
  Z0f P 302 [v] w fun r w' => r = .tuple #[Z44 (blM X), .int .i64 (-(127 + Ma.blen X))] ∧ Grow w w' [] := by
 refine Z0o func302 rfl ntmps302 rfl ?_
 have H0 := St.start w
 have hll := Z3x hc (k := 1203) hb
 have hbp := Ma.blen_pos hx
 refine Z03 (Z00 ?_)
 refine Z0X H0 ta270 rfl rfl (fun b0_0 w1 H1 => ?_)
 refine Zg (Z01 (Z02 ?_))
 refine Zk [0, 2] ?_
 refine Z03 (Z00 (Zm ?_))
 refine Zp func250 (lenZ hc ZO (H1.iarg hv)) ?_
 refine Z0y rfl rfl rfl rfl (Z0l ZO) ?_
 refine Zg (Z01 (Z02 ?_))
 refine Zk [0, 2, 4] ?_
 refine Z03 (Z00 ?_)
 refine Z2g H1 rfl rfl underlying155 ti24 rfl (.cons rfl ZR .nil) rfl rfl rfl (fun b2_0 w2 H2 => ?_)
 refine Zm ?_
 obtain ⟨k, hk⟩ : ∃ k : Nat, (127 + Ma.blen X).toNat = k := ⟨_, rfl⟩
 refine Z0j (s := 15) (v' := .int .i64 (k : Int)) rfl (by refine congrArg (Value.int _) ?_; omega) ?_
 have eb : blM X = 2 ^ k / X + 1 := by unfold blM; rw [hk]
 have b2k : Ma.blen (2 ^ k) = k + 1 := Ma.blen_of (Int.le_refl _) (by rw [Int.pow_succ]; have := Ma.pow_pos (show (0 : Int) < 2 by omega) k; omega)
 have hp := Ma.pow_pos (show (0 : Int) < 2 by omega) k
 refine Zc func249 (shlZ (k := k) (Cnone (x := 1) ZO) ZO (by simp) (by rw [show Ma.blen 1 = 1 from by decide]; omega) (H2.ibl mem0)) ?_
 rintro _ w3 ⟨vt, lt, rfl, ht, hG⟩
 have H3 := hG _ _ _ _ H2
 simp only [Zca, Zna] at H3
 refine Zm ?_
 refine Zx (Zx (Zg (Zg (Z01 (Z02 ?_)))))
 refine Zk [0, 2, 4, 5] ?_
 refine Z03 (Z00 ?_)
 have llt := Z3x ht (k := 1400) (by rw [Int.one_mul, b2k]; omega)
 refine Zm (Zm ?_)
 refine Zc func252 (divZ ht hc ZO ZO (by rw [Int.one_mul, b2k]; omega) ZO ZO (H3.io mem0) (H3.iarg hv)) ?_
 rintro _ w4 ⟨vq, vr, lq, lr, rfl, hq, hr, hG⟩
 have H4 := hG _ _ _ _ H3
 simp only [Zca, Zna] at H4
 refine Zm ?_
 refine Zx (Zx (Zx (Zg (Zg (Zg (Z01 (Z02 ?_)))))))
 refine Zk [2, 4, 7] ?_
 refine Z03 (Z00 ?_)
 have evq : nv lq = 2 ^ k / X := by have := hq.val; rwa [Int.one_mul] at this
 have hqn : 0 ≤ 2 ^ k / X := Int.ediv_nonneg (Int.le_of_lt hp) (Int.le_of_lt hx)
 have hb2 := Ma.blen_mono (a := 2 ^ k / X) (b := 2 ^ 128) hqn (by rw [show (2 : Int) ^ 128 = 340282366920938463463374607431768211456 from by decide]; omega)
 have hb3 := Ma.blen_mono (a := 2 ^ k / X + 1) (b := 2 ^ 128) ZO (by rw [show (2 : Int) ^ 128 = 340282366920938463463374607431768211456 from by decide]; omega)
 rw [show Ma.blen (2 ^ 128) = 129 from by decide +kernel] at hb2 hb3
 have llq := Z3x hq (k := 1400) (by rw [Int.one_mul]; omega)
 refine Zm ?_
 refine Z2g H4 rfl rfl underlying155 ti24 rfl (.cons rfl ZR .nil) rfl rfl rfl (fun b4_1 w5 H5 => ?_)
 refine Zc func240 (addS (cnU hq) (Uone (x := 1) ZO) ZO (by simp) (by rw [evq]; omega) (by rw [nvone]; decide) (by rw [evq, nvone]; omega) (H5.io mem1) (H5.ibl mem0)) ?_
 rintro _ w6 ⟨vs, ls2, rfl, hs, hG⟩
 have H6 := hG _ _ _ _ H5
 simp only [Zca, Zna] at H6
 refine Zm ?_
 refine Zx (Zx (Zg (Z01 (Z02 ?_))))
 refine Zk [2, 4, 7] ?_
 refine Z03 (Z00 (Zm ?_))
 refine Zc func314 (wordsP vs ls2 (cnU hs) (cn_len2 hs (by rw [evq, nvone, ← eb]; exact hfit)) w6 (H6.io mem0)) ?_
 rintro _ w7 ⟨rfl, hG⟩
 have H7 := hG _ _ _ _ H6
 simp only [Zca, Zna] at H7
 refine Zm ?_
 refine Z5M rfl rfl rfl (Z0l ZO) ?_
 refine Z0m H7 (.tail (.tail (.tail (.tail (.tail (.tail .head)))))) (.zero (.zero .nil)) rfl Z5j rfl rfl ZC (fun w8 H8 => ?_)
 refine Zg (Z01 (Z02 ?_))
 refine Zk [2, 3] ?_
 refine Z0i ?_
 refine Z12 results302 (.cell rfl (Z0E H8 mem6 underlying270 rfl Z5j (.take (.take .nil))) (.tmp rfl .nil)) rfl ?_
 refine ⟨_, rfl, ?_⟩
 have H15 := St.del .head (St.del (.tail .head) (St.del (.tail (.tail .head)) (St.del (.tail (.tail (.tail .head))) (St.del (.tail (.tail (.tail (.tail .head)))) (St.del (.tail (.tail (.tail (.tail (.tail .head))))) (St.del (.tail (.tail (.tail (.tail (.tail (.tail .head)))))) H8))))))
 exact ⟨by rw [show nv ls2 = blM X from hs.val.trans (by rw [evq, nvone, eb]), Int.zero_sub], H15.grows⟩
theorem e128 : (2 : Int) ^ 128 = 340282366920938463463374607431768211456 := by decide
theorem exactP (q : Int) (w : World) :
  Z0f P 239 [.int .i64 q] w fun r w' => r = .bool (decide (0 ≤ q ∧ q ≤ 55)) ∧ w = w' := by
 refine Z0o func239 rfl ntmps239 rfl ?_
 refine Z03 (Z00 (Zg (Z01 (Z02 ?_))))
 refine Zk [0] ?_
 refine Z03 (Z00 (Zm ?_))
 refine Zh ?_
 refine Zm ?_
 apply Z47 2 [] rfl rfl (.cons rfl .nil) rfl rfl (fun _ => rfl) rfl rfl rfl
 ·intro hg1_3
  refine Zm ?_
  refine Zf ?_
  refine Z01 ?_
  exact Z0O rfl (.cons rfl (ZT hg1_3) .nil)
 refine Zg (Z01 (Z02 ?_))
 refine Zk [2] ?_
 refine Z0i ?_
 refine Z0e results239 rfl ?_
 refine ⟨_, rfl, ?_⟩
 exact ⟨rfl, rfl⟩
def Z0K (q : Int) : Int × Int × Int := if q < -342 ∨ 308 < q then (0, 0, 60) else ((q + 342) / 16, (q + 342) % 16, 0)
def Z0M (s : Int) : Int × Int × Int := if s < 0 ∨ 41 ≤ s then (0, 0, 61) else (-342 + 16 * s, if s = 40 then 11 else 16, 0)
theorem whereP (q : Int) (hq : -9223372036854775808 ≤ q ∧ q ≤ 9223372036854775807) (w : World) :
  Z0f P 141 [.int .i64 q] w fun r w' => r = .tuple #[.int .i64 (Z0K q).1, .int .i64 (Z0K q).2.1, .int .i64 (Z0K q).2.2] ∧ w = w' := by
 refine Z0o func141 rfl ntmps141 rfl ?_
 refine Z03 (Z00 (Zg (Zg (Zg (Z01 (Z02 ?_))))))
 refine Zk [0] ?_
 refine Z03 (Z03 (Z00 (Zm ?_)))
 refine Zl ?_
 refine Zm ?_
 apply l_or 2 [0] rfl rfl (.cons rfl (.cons rfl .nil)) rfl rfl (fun _ => rfl) rfl rfl rfl
 ·intro hg1_3
  refine Zm ?_
  refine Zw ?_
  refine Z01 ?_
  exact Z0O rfl (.cons rfl (ZF hg1_3) (.cons rfl rfl .nil))
 refine Z01 (Z02 ?_)
 refine Zk [0, 11] ?_
 (first | refine Z0c rfl ?_ ?_ | refine Z08 rfl ?_ ?_) <;> intro hc0
 ·refine Z03 (Z00 (Zg (Zg (Zg (Z01 (Z02 ?_))))))
  refine Zk [2, 3, 4] ?_
  refine Z0i ?_
  refine Z07 ?_
  refine Z12 results141 (.tmp rfl (.tmp rfl (.tmp rfl .nil))) rfl ?_
  refine ⟨_, rfl, ?_⟩
  have e : Z0K q = (0, 0, 60) := if_pos hc0
  rw [e]
  exact ⟨rfl, rfl⟩
 refine Z0a (Z02 ?_)
 refine Zk [0] ?_
 refine Z03 (Z00 (Zm ?_))
 refine Z0W rfl rfl rfl rfl (Z0l ZO) ?_
 refine Zg (Z01 (Z02 ?_))
 refine Zk [5] ?_
 refine Z03 (Z00 (Zm ?_))
 refine Z2D rfl rfl rfl rfl ZO (Z35 ZO) ?_
 refine Zm ?_
 refine Z2e rfl rfl rfl rfl ZO (Z2E ZO) ?_
 refine Zg (Zg (Zg (Z01 (Z02 ?_))))
 refine Zk [2, 3, 4] ?_
 refine Z0i ?_
 refine Z12 results141 (.tmp rfl (.tmp rfl (.tmp rfl .nil))) rfl ?_
 refine ⟨_, rfl, ?_⟩
 have e : Z0K q = ((q + 342) / 16, (q + 342) % 16, 0) := if_neg hc0
 rw [e, Int.sub_neg]
 exact ⟨rfl, rfl⟩
theorem firstP (s : Int) (hs : -9223372036854775808 ≤ s ∧ s ≤ 9223372036854775807) (w : World) :
  Z0f P 282 [.int .i64 s] w fun r w' => r = .tuple #[.int .i64 (Z0M s).1, .int .i64 (Z0M s).2.1, .int .i64 (Z0M s).2.2] ∧ w = w' := by
 refine Z0o func282 rfl ntmps282 rfl ?_
 refine Z03 (Z00 (Zg (Zg (Zg (Z01 (Z02 ?_))))))
 refine Zk [0] ?_
 refine Z03 (Z03 (Z00 (Zm ?_)))
 refine Zl ?_
 refine Zm ?_
 apply l_or 2 [0] rfl rfl (.cons rfl (.cons rfl .nil)) rfl rfl (fun _ => rfl) rfl rfl rfl
 ·intro hg1_3
  refine Zm ?_
  refine Zh ?_
  refine Z01 ?_
  exact Z0O rfl (.cons rfl (ZF hg1_3) (.cons rfl rfl .nil))
 refine Z01 (Z02 ?_)
 refine Zk [0, 10] ?_
 (first | refine Z0c rfl ?_ ?_ | refine Z08 rfl ?_ ?_) <;> intro hc0
 ·refine Z03 (Z00 (Zg (Zg (Zg (Z01 (Z02 ?_))))))
  refine Zk [2, 3, 4] ?_
  refine Z0i ?_
  refine Z07 ?_
  refine Z12 results282 (.tmp rfl (.tmp rfl (.tmp rfl .nil))) rfl ?_
  refine ⟨_, rfl, ?_⟩
  have e : Z0M s = (0, 0, 61) := if_pos hc0
  rw [e]
  exact ⟨rfl, rfl⟩
 refine Z0a (Z02 ?_)
 refine Zk [0] ?_
 refine Z03 (Z00 (Zm ?_))
 refine Z20 rfl rfl rfl rfl (Z0l ZO) ?_
 refine Z0y rfl rfl rfl rfl (Z0l ZO) ?_
 refine Zg (Z01 (Z02 ?_))
 refine Zk [2] ?_
 refine Z03 (Z00 (Zm (Zm ?_)))
 refine Z0W rfl rfl rfl rfl (Z0l ZO) ?_
 refine l_min rfl rfl rfl rfl ?_
 refine Zg (Zg (Zg (Z01 (Z02 ?_))))
 refine Zk [2, 3, 4] ?_
 refine Z0i ?_
 refine Z12 results282 (.tmp rfl (.tmp rfl (.tmp rfl .nil))) rfl ?_
 refine ⟨_, rfl, ?_⟩
 have e : Z0M s = (-342 + 16 * s, if s = 40 then 11 else 16, 0) := if_neg hc0
 rw [e, show min 16 (309 - (-342 + 16 * s)) = (if s = 40 then 11 else 16) from by split <;> omega]
 exact ⟨rfl, rfl⟩
abbrev wrow (n : Int) : List Value := [.int .u64 (n / 18446744073709551616), .int .u64 (n % 18446744073709551616)]
def segR (s : Int) : List (List Value) := (List.range (Z0M s).2.1.toNat).map fun i : Nat => wrow (entS ((Z0M s).1 + (i : Int))).1
theorem segR_at (s : Int) (i : Nat) (h : i < (Z0M s).2.1.toNat) : (segR s)[i]? = some (wrow (entS ((Z0M s).1 + i)).1) := by
 simp [segR, h]
theorem segR_len (s : Int) : (segR s).length = (Z0M s).2.1.toNat := by simp [segR]
theorem segR_rows (s : Int) : Z1g 2 (segR s) := fun r hr => by
 obtain ⟨i, _, rfl⟩ := List.mem_map.1 hr
 exact ⟨rfl, by simp [Value.oneCell']⟩
theorem segR_eq {rs : List (List Value)} {s : Int} (hl : rs.length = (Z0M s).2.1.toNat) (h : ∀ j : Nat, j < rs.length → rs[j]? = some (wrow (entS ((Z0M s).1 + j)).1)) : rs = segR s := by
 apply List.ext_getElem?
 intro j
 by_cases hj : j < rs.length
 ·rw [h j hj, segR_at s j ZO]
 rw [List.getElem?_eq_none ZO, List.getElem?_eq_none (by rw [segR_len]; omega)]
theorem entS_neg {q : Int} (n : Nat) (h : -342 ≤ q ∧ q < 0) (hn : (n : Int) = -q) : (entS q).1 = blM (5 ^ n) := by
 unfold entS
 rw [if_neg (by omega), if_pos h.2, show (-q).toNat = n from by omega]
theorem entS_pos {q : Int} (n : Nat) (h : 0 ≤ q ∧ q ≤ 308) (hn : (n : Int) = q) : (entS q).1 = abM (5 ^ n) := by
 unfold entS
 rw [if_neg (by omega), if_neg (by omega), show q.toNat = n from by omega]
theorem Z7b {rs : List (List Value)} {i : Nat} {x : List Value} (hi : i < rs.length) (j : Nat) : (rs.set i x)[j]? = if i = j then some x else rs[j]? := by
 rw [List.getElem?_set]
 split
 ·rename_i h; subst h; simp [hi]
 rfl
theorem segP (s : Int) (hs : -9223372036854775808 ≤ s ∧ s ≤ 9223372036854775807) (w : World) :
  Z0f P 283 [.int .i64 s] w fun r w' => ∃ v, r = .tuple #[v, .int .i64 (Z0M s).2.2] ∧ Grow w w' [As.rk 270 2 v (segR s)] := by
 refine Z0o func283 rfl ntmps283 rfl ?_
 have H0 := St.start w
 refine Z03 (Z00 (Zg (Zg (Z01 (Z02 ?_)))))
 refine Zk [0] ?_
 refine Z03 (Z00 (Zm ?_))
 refine Zp func282 (firstP s hs _) ?_
 refine Zm ?_
 refine Zx (Zx (Zx (Zg (Zg (Zg (Z01 (Z02 ?_)))))))
 refine Zk [4, 5, 6] ?_
 refine Z03 (Z03 (Z00 (Zm ?_)))
 refine Zo ?_
 refine Z01 (Z02 ?_)
 refine Zk [4, 5, 6, 19] ?_
 (first | refine Z0c rfl ?_ ?_ | refine Z08 rfl ?_ ?_) <;> intro hc0
 ·have hbad : s < 0 ∨ 41 ≤ s := by
   rcases Int.lt_or_le s 0 with h | h
   ·exact .inl h
   rcases Int.lt_or_le s 41 with h2 | h2
   ·exact absurd (show (Z0M s).2.2 = 0 by unfold Z0M; rw [if_neg ZO]) hc0
   exact .inr h2
  refine Z03 (Z00 (Zm (Zg (Zg (Z01 (Z02 ?_))))))
  refine Zk [2, 3] ?_
  refine Z0i ?_
  refine Z07 ?_
  refine Z0P results283 rfl rfl ?_
  refine ⟨_, rfl, ?_⟩
  have e : Z0M s = (0, 0, 61) := if_pos hbad
  have es : segR s = [] := by unfold segR; rw [e]; rfl
  rw [es, e]
  exact ⟨_, rfl, (H0.nilk 270 2).grows⟩
 have hgood : 0 ≤ s ∧ s ≤ 40 := by
  rcases Int.lt_or_le s 0 with h | h
  ·exact absurd (show (Z0M s).2.2 = 61 by unfold Z0M; rw [if_pos ZO]) ZO
  rcases Int.lt_or_le s 41 with h2 | h2
  ·omega
  exact absurd (show (Z0M s).2.2 = 61 by unfold Z0M; rw [if_pos ZO]) ZO
 have hfe : Z0M s = (-342 + 16 * s, if s = 40 then 11 else 16, 0) := by unfold Z0M; rw [if_neg ZO]
 obtain ⟨q, hqd⟩ : ∃ q : Int, (Z0M s).1 = q := ⟨_, rfl⟩
 obtain ⟨nn, hnd⟩ : ∃ nn : Nat, (Z0M s).2.1 = (nn : Int) := ⟨(Z0M s).2.1.toNat, by rw [hfe]; dsimp only; split <;> omega⟩
 have hq1 : q = -342 + 16 * s := by rw [← hqd, hfe]
 have hn1 : (nn : Int) = if s = 40 then 11 else 16 := by rw [← hnd, hfe]
 have hnb : 11 ≤ nn ∧ nn ≤ 16 ∧ q + nn ≤ 309 := by split at hn1 <;> omega
 rw [hqd, hnd]
 refine Z0a (Z02 ?_)
 refine Zk [4, 5] ?_
 refine Z03 (Z00 (Zm ?_))
 refine k_make (m := nn) (c := nn) H0 rfl rfl underlying371 ti270 rfl (by decide) (by simp [Value.oneCell']) rfl rfl ZO ZO ZO ZO (by simp only [maxLen]; omega) ZO (fun v4_1 w1 H1 => ?_)
 refine Zg (Z01 (Z02 ?_))
 refine Zk [4, 5, 7] ?_
 refine Z03 (Z00 (Zm ?_))
 refine Z5M rfl rfl rfl (Z0l ZO) ?_
 refine Z5T rfl rfl rfl rfl ?_
 refine Zm ?_
 refine l_min rfl rfl rfl rfl ?_
 refine Zg (Z01 (Z02 ?_))
 refine Zk [4, 5, 7, 8] ?_
 refine Z03 (Z00 (Zm (Zm ?_)))
 refine Z0y rfl rfl rfl rfl (Z0l ZO) ?_
 refine Z0W rfl rfl rfl rfl (Z0l ZO) ?_
 refine Z5M rfl rfl rfl (Z0l ZO) ?_
 refine Z5T rfl rfl rfl rfl ?_
 obtain ⟨e0, he0⟩ : ∃ e0 : Nat, max (0 - (q + min (max (0 - q) 0) (nn : Int) - 1)) 0 = (e0 : Int) := ⟨(max (0 - (q + min (max (0 - q) 0) (nn : Int) - 1)) 0).toNat, ZO⟩
 refine Z0j (s := 33) (v' := .int .i64 (e0 : Int)) rfl (by rw [he0]) ?_
 refine Zc func301 (powersP e0 ZO w1) ?_
 rintro _ w2 ⟨b, vl, ls, rfl, hcn, hG⟩
 have H2 := hG _ _ _ _ H1
 simp only [Zca, Zna] at H2
 refine Zg (Z01 (Z02 ?_))
 refine Zk [4, 5, 7, 8, 9] ?_
 refine Z03 (Z03 (Z00 ?_))
 obtain ⟨dn, hdn⟩ : ∃ dn : Nat, min (max (0 - q) 0) (nn : Int) = (dn : Int) := ⟨(min (max (0 - q) 0) (nn : Int)).toNat, ZO⟩
 rw [hdn] at he0 ⊢
 refine Zm ?_
 refine Z0W rfl rfl rfl rfl (Z0l ZO) ?_
 refine Zg (Z01 (Z02 ?_))
 refine Zk [4, 5, 7, 8, 9, 10] ?_
 refine Z0d ?_
 refine Z0z (ι := Nat × List (List Value) × Value × List Int × Nat) (fun (z0 : Nat × List (List Value) × Value × List Int × Nat) => match z0 with | ⟨k, rs, vl, ls, e⟩ => k) (fun (z0 : Nat × List (List Value) × Value × List Int × Nat) (w' : World) => match z0 with | ⟨k, rs, vl, ls, e⟩ => St w w.heap.size Z0J ([As.blk b 155 [vl], As.ri 24 .u64 vl ls, As.rk 270 2 v4_1 rs]) w' ∧ k ≤ dn ∧ rs.length = nn ∧ Z1g 2 rs ∧ Ma.Cn 18446744073709551616 ls (5 ^ e) ∧ e ≤ 343 ∧ (0 < k → (e : Int) = -(q + k - 1)) ∧ ∀ j : Nat, k ≤ j → j < dn → rs[j]? = some (wrow (entS (q + j)).1)) (fun (z0 : Nat × List (List Value) × Value × List Int × Nat) => match z0 with | ⟨k, rs, vl, ls, e⟩ => [(10, .int .i64 ((k : Int) - 1))]) [4, 5, 7, 8, 9] (dn, List.replicate nn [.int .u64 0, .int .u64 0], vl, ls, e0) ?_ (.cons rfl (.cons rfl (.cons rfl (.cons rfl (.cons rfl .nil))))) ?_ ?_
 ·exact ⟨H2, Nat.le_refl _, by simp, Z1g.rep rfl (by simp [Value.oneCell']) _, hcn, ZO, ZO, fun j h1 h2 => by omega⟩
 ·exact (.cons rfl ZN .nil)
 rintro ⟨k, rs, vl, ls, e⟩ w3 ⟨H3, hk, hrl, hRs, hcn, he, hek, hrow⟩
 show RunC P _ _ _ (_ :: _) _
 refine Z03 (Z03 (Z00 (Zm ?_)))
 refine Zh ?_
 refine Z01 (Z02 ?_)
 refine Zk [4, 5, 7, 8, 9, 10, 38] ?_
 (first | refine Z0c rfl ?_ ?_ | refine Z08 rfl ?_ ?_) <;> intro hc1
 ·refine Z0a (Z02 ?_)
  refine Zk [4, 5, 7, 8, 9, 10] ?_
  refine Z03 (Z0d (Z00 (Zm (Zm (Zm ?_)))))
  refine Z3g rfl rfl rfl func313 rfl rfl .nil (nextP b vl ls e ZO hcn w3 (St.rows (τ := [As.blk b 155 [vl], As.ri 24 .u64 vl ls]) (σ := _) H3)) ?_
  rintro _ w4 ⟨rfl, vm, lm, hm, hX⟩
  have H4 := hX _ _ _ _ H3
  simp only [Zca, Zna] at H4
  refine Zc func302 (belowP vl ls (5 ^ e) hcn (five_pos e) (by have := Z1T e ZO; omega) ((bl_fit ⟨e, ZO⟩).resolve_left (by show ¬ e = 0; omega)) w4 (H4.io mem2)) ?_
  rintro _ w5 ⟨rfl, hG⟩
  have H5 := hG _ _ _ _ H4
  simp only [Zca, Zna] at H5
  refine Zm ?_
  refine Zx (Zx ?_)
  refine Z3J (j := k - 1) rfl rfl underlying371 Z5j (by decide) rfl rfl (by first | exact H5.ibl mem0 | exact H5.io mem1 | exact H5.io mem2 | exact H5.ik ZA mem3 | assumption) ZP ZI (fun ad10_8 ac10_8 hA10_8 => ?_)
  have hne : Z1g 2 rs := hRs
  refine k_store (j := k - 1) H5 (.tail (.tail (.tail .head))) ZA (by decide) hA10_8 rfl Z5j rfl rfl rfl ZI ZC (fun w6 H6 => ?_)
  refine Z01 ?_
  refine Z0F ?_
  refine Z02 ?_
  refine Zk [4, 5, 7, 8, 9, 10] ?_
  refine Z00 (Zm ?_)
  refine Z0W rfl rfl rfl rfl (Z0l ZO) ?_
  refine Zg (Z01 ?_)
  have H7 := St.del (.tail (.tail .head)) H6
  refine Z0p (i := (k, rs, vl, ls, e)) (k - 1, rs.set (k - 1) (wrow (blM (5 ^ e))), vm, lm, e + 1) ?_ ?_ (.cons rfl (.cons rfl (.cons rfl (.cons rfl (.cons rfl .nil))))) ?_
  ·first | omega | (simp; omega)
  ·refine ⟨H7, ZO, by simpa using hrl, hRs.set rfl (by simp [Value.oneCell']) _, hm, ZO, ZO, fun j h1 h2 => ?_⟩
   rw [Z7b ZO]
   split
   ·rename_i h3
    rw [entS_neg e ZO ZO]
   exact hrow j ZO h2
  exact (.cons rfl ZN .nil)
 refine Z0H ?_
 refine Z06 ?_
 refine Z06 ?_
 refine Z0h ?_
 refine Z02 ?_
 refine Zk [4, 5, 7, 8] ?_
 refine Z03 (Z00 (Zm ?_))
 have H9 := St.del .head (St.del .head H3)
 refine Z5T rfl rfl rfl rfl ?_
 obtain ⟨e1, he1⟩ : ∃ e1 : Nat, max q 0 = (e1 : Int) := ⟨(max q 0).toNat, ZO⟩
 refine Z0j (s := 51) (v' := .int .i64 (e1 : Int)) rfl (by rw [he1]) ?_
 refine Zc func301 (powersP e1 ZO w3) ?_
 rintro _ w10 ⟨b, vl, ls, rfl, hcn, hG⟩
 have H10 := hG _ _ _ _ H9
 simp only [Zca, Zna] at H10
 refine Zg (Z01 (Z02 ?_))
 refine Zk [5, 7, 8, 9] ?_
 refine Z03 (Z03 (Z00 (Zm (Zg (Z01 (Z02 ?_))))))
 refine Zk [5, 7, 9, 11] ?_
 refine Z0d ?_
 refine Z0z (ι := Nat × List (List Value) × Value × List Int × Nat) (fun (z0 : Nat × List (List Value) × Value × List Int × Nat) => match z0 with | ⟨k, rs, vl, ls, e⟩ => nn - k) (fun (z0 : Nat × List (List Value) × Value × List Int × Nat) (w' : World) => match z0 with | ⟨k, rs, vl, ls, e⟩ => St w w.heap.size Z0J ([As.blk b 155 [vl], As.ri 24 .u64 vl ls, As.rk 270 2 v4_1 rs]) w' ∧ dn ≤ k ∧ k ≤ nn ∧ rs.length = nn ∧ Z1g 2 rs ∧ Ma.Cn 18446744073709551616 ls (5 ^ e) ∧ e ≤ 330 ∧ (k < nn → (e : Int) = q + k) ∧ ∀ j : Nat, j < k → rs[j]? = some (wrow (entS (q + j)).1)) (fun (z0 : Nat × List (List Value) × Value × List Int × Nat) => match z0 with | ⟨k, rs, vl, ls, e⟩ => [(11, .int .i64 (k : Int))]) [5, 7, 9] (dn, rs, vl, ls, e1) ?_ (.cons rfl (.cons rfl (.cons rfl .nil))) ?_ ?_
 ·exact ⟨H10, Nat.le_refl _, ZO, hrl, hRs, hcn, ZO, ZO, fun j h1 => hrow j ZO h1⟩
 ·exact (.cons rfl ZN .nil)
 rintro ⟨k, rs, vl, ls, e⟩ w11 ⟨H11, hdk, hk, hrl, hRs, hcn, he, hek, hrow⟩
 show RunC P _ _ _ (_ :: _) _
 refine Z03 (Z03 (Z00 (Zm (Zm ?_))))
 refine Zl ?_
 refine Z01 (Z02 ?_)
 refine Zk [5, 7, 9, 11, 56] ?_
 (first | refine Z0c rfl ?_ ?_ | refine Z08 rfl ?_ ?_) <;> intro hc2
 ·refine Z0a (Z02 ?_)
  refine Zk [5, 7, 9, 11] ?_
  refine Z03 (Z0d (Z00 (Zm (Zm (Zm ?_)))))
  refine Z3g rfl rfl rfl func313 rfl rfl .nil (nextP b vl ls e ZO hcn w11 (St.rows (τ := [As.blk b 155 [vl], As.ri 24 .u64 vl ls]) (σ := _) H11)) ?_
  rintro _ w12 ⟨rfl, vm, lm, hm, hX⟩
  have H12 := hX _ _ _ _ H11
  simp only [Zca, Zna] at H12
  refine Zc func303 (aboveP vl ls (5 ^ e) hcn (five_pos e) (by have := Z1T e ZO; omega) w12 (H12.io mem2)) ?_
  rintro _ w13 ⟨rfl, hG⟩
  have H13 := hG _ _ _ _ H12
  simp only [Zca, Zna] at H13
  refine Zm ?_
  refine Zx (Zx ?_)
  refine Z3J (j := k) rfl rfl underlying371 Z5j (by decide) rfl rfl (by first | exact H13.ibl mem0 | exact H13.io mem1 | exact H13.io mem2 | exact H13.ik ZA mem3 | assumption) ZP ZI (fun ad15_8 ac15_8 hA15_8 => ?_)
  have hne : Z1g 2 rs := hRs
  refine k_store (j := k) H13 (.tail (.tail (.tail .head))) ZA (by decide) hA15_8 rfl Z5j rfl rfl rfl ZI ZC (fun w14 H14 => ?_)
  refine Z01 ?_
  refine Z0F ?_
  refine Z02 ?_
  refine Zk [5, 7, 9, 11] ?_
  refine Z00 (Zm ?_)
  refine Z0y rfl rfl rfl rfl (Z0l ZO) ?_
  refine Zg (Z01 ?_)
  have H15 := St.del (.tail (.tail .head)) H14
  refine Z0p (i := (k, rs, vl, ls, e)) (k + 1, rs.set k (wrow (abM (5 ^ e))), vm, lm, e + 1) ?_ ?_ (.cons rfl (.cons rfl (.cons rfl .nil))) ?_
  ·first | omega | (simp; omega)
  ·refine ⟨H15, ZO, ZO, by simpa using hrl, hRs.set rfl (by simp [Value.oneCell']) _, hm, ZO, ZO, fun j h1 => ?_⟩
   rw [Z7b ZO]
   split
   ·rename_i h3
    rw [entS_pos e ZO ZO]
   exact hrow j ZO
  exact (.cons rfl ZN .nil)
 refine Z0H ?_
 refine Z06 ?_
 refine Z06 ?_
 refine Z0h ?_
 refine Z02 ?_
 refine Zk [7] ?_
 refine Z03 (Z00 (Zm (Zg (Zg (Z01 (Z02 ?_))))))
 refine Zk [2, 3] ?_
 refine Z0i ?_
 refine Z0P results283 rfl rfl ?_
 refine ⟨_, rfl, ?_⟩
 have H18 := St.del (.tail .head) (St.del (.tail (.tail .head)) (St.front2 H11))
 obtain rfl : k = nn := by omega
 have es : rs = segR s := segR_eq (by rw [hnd]; omega) (fun j hj => by rw [hqd]; exact hrow j ZO)
 rw [← es, show (Z0M s).2.2 = 0 from by rw [hfe]]
 exact ⟨_, rfl, H18.grows⟩
end Go.Proofs.YtgjgahmhoflgcaaGreatDoor.W
