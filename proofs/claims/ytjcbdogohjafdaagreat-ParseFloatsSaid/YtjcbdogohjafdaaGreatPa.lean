/- walks of power.words, powers and what it gives -/
import Derived.Test.YtjcbdogohjafdaaGreatVr
import Derived.Test.YtjcbdogohjafdaaGreatNa
set_option linter.unusedVariables false
set_option linter.unusedSimpArgs false
set_option maxRecDepth 10000
namespace Go.Proofs.YtjcbdogohjafdaaGreat.W
open Go.Vc Go.RowKit Tryz
abbrev Z5E (n : Int) : Value := .agg #[.int .u64 (n / 18446744073709551616), .int .u64 (n % 18446744073709551616)]
theorem wide_words : ∀ {ls : List Int}, U ls → ls.length ≤ 2 → (if 1 < ls.length then ls.getD 1 0 else 0) = nv ls / 18446744073709551616 ∧ (if 0 < ls.length then ls.getD 0 0 else 0) = nv ls % 18446744073709551616
 | [], _, _ => by decide
 | [a], h, _ => by
  have ha := h a (.head _)
  simp [Ma.vb]
  omega
 | [a, b], h, _ => by
  have ha := h a (.head _)
  have hb := h b (.tail _ (.head _))
  simp [Ma.vb]
  omega
 | _ :: _ :: _ :: _, _, h => by simp at h
set_option exponentiation.threshold 2000 in
theorem Z2C (n : Nat) (h : n ≤ 401) : Ma.blen (5 ^ n) ≤ 1203 := by
 have hp : ∀ n : Nat, (0 : Int) ≤ 5 ^ n ∧ (5 : Int) ^ n ≤ 8 ^ n := by
  intro n
  induction n with
  | zero => decide
  | succ n ih =>
   rw [Int.pow_succ, Int.pow_succ]
   have := ih.1
   have := ih.2
   omega
 have h1 := hp n
 refine (Ma.blen_le_iff h1.1 1203).2 ?_
 have h2 : (8 : Int) ^ n = 2 ^ (3 * n) := by rw [Int.pow_mul]; rfl
 have h3 := Ma.pow_mono (show (1 : Int) ≤ 2 by omega) (show 3 * n + 0 ≤ 1203 by omega)
 have h4 : (5 : Int) ^ n < 8 ^ n ∨ n = 0 := by
  rcases Nat.eq_zero_or_pos n with h | h
  ·exact .inr h
  refine .inl ?_
  obtain ⟨m, rfl⟩ : ∃ m, n = m + 1 := ⟨n - 1, ZO⟩
  have := hp m
  have hp5 := Ma.pow_pos (show (0 : Int) < 5 by omega) m
  rw [Int.pow_succ, Int.pow_succ]
  omega
 rcases h4 with h4 | h4
 ·rw [h2] at h4
  exact Int.lt_of_lt_of_le h4 (by simpa using h3)
 subst h4
 exact Int.lt_of_lt_of_le (show (5 : Int) ^ 0 < 2 ^ 1 by decide) (Ma.pow_mono ZO ZO)
theorem powF {n : Nat} (hn : n ≤ 401) {w : World} : Z0g P 124 [.int .u64 5, .int .i64 (n : Int)] w fun r w' => ∃ v ls, r = .tuple #[v, .int .i64 0] ∧ Ma.Cn 18446744073709551616 ls (5 ^ n) ∧ Grow w w' [As.ri 30 .u64 v ls] := by
 refine (powN 5 n ZO ZO w).mono ?_
 intro r w' h
 have hb := Z2C n hn
 rw [Z45 ZO (by rw [Int.toNat_natCast]; omega), Int.toNat_natCast] at h
 exact h
theorem Uone {x : Int} (h : 0 ≤ x ∧ x ≤ 18446744073709551615) : U [x] := fun y hy => by rw [List.mem_singleton.1 hy]; exact h
theorem nvone (x : Int) : nv [x] = x := by simp [Ma.vb]
theorem Cnone {x : Int} (h : 0 < x ∧ x ≤ 18446744073709551615) : Ma.Cn 18446744073709551616 [x] x := ⟨(Uone (by omega)).dg, ⟨fun _ => by omega, trivial⟩, by simp [Ma.vb]⟩
theorem wordsP (v : Value) (ls : List Int) (hU : U ls) (hL : ls.length ≤ 2) (w : World) (hv : IV w v (ints .u64 ls)) :
  Z0g P 183 [v] w fun r w' => r = Z5E (nv ls) ∧ Grow w w' [] := by
 refine Z0o func183 rfl ntmps183 rfl ?_
 have H0 := St.start w
 refine Z03 (Z00 ?_)
 refine Z0H H0 Z5a rfl rfl (fun b0_0 w1 H1 => ?_)
 refine Z02 (Z01 (Z03 (Z00 ?_)))
 refine Z0Q rfl rfl pl124 Z5a .nil ?_
 refine Z0H H1 Z5a rfl rfl (fun b1_1 w2 H2 => ?_)
 refine Z0a H2 .head (.zero (.zero .nil)) rfl Z1I rfl rfl ZC (fun w3 H3 => ?_)
 refine Z02 (Z01 (Z03 (Z03 (Z00 (Zm ?_)))))
 refine Z0C rfl rfl underlying47 rfl (by first | exact H3.ibl mem0 | exact H3.ibl mem1 | exact H3.iarg hv | assumption) ?_
 refine Zm (Z02 (Z01 (Z0c ?_)))
 refine Z0v (ι := Nat × Int × Int) (fun (z0 : Nat × Int × Int) => match z0 with | ⟨i, hi, lo⟩ => ls.length - i) (fun (z0 : Nat × Int × Int) (w' : World) => match z0 with | ⟨i, hi, lo⟩ => St w w.heap.size Z0B ([As.blk b1_1 124 [.int .u64 hi, .int .u64 lo], As.blk b0_0 124 [.int .u64 0, .int .u64 0]]) w' ∧ i ≤ ls.length ∧ hi = (if 1 < i then ls.getD 1 0 else 0) ∧ lo = (if 0 < i then ls.getD 0 0 else 0)) (fun (z0 : Nat × Int × Int) => match z0 with | ⟨i, hi, lo⟩ => [(9, .int .i64 (i : Int))]) [2, 3, 7, 8] (0, 0, 0) ?_ (.cons rfl (.cons rfl (.cons rfl (.cons rfl .nil)))) ?_ ?_
 ·exact ⟨H3, ZO, rfl, rfl⟩
 ·exact (.cons rfl ZN .nil)
 rintro ⟨i, hi, lo⟩ w4 ⟨H4, hi1, hhi, hlo⟩
 show RunC P _ _ _ (_ :: _) _
 refine Z03 (Z00 ?_)
 refine Zl ?_
 refine Z02 (Z01 (Z03 ?_))
 (first | refine Z08 rfl ?_ ?_ | refine Z05 rfl ?_ ?_) <;> intro hc0
 ·refine Z09 (Z01 ?_)
  refine Zk [2, 3, 7, 8, 9] ?_
  refine Z03 (Z0c (Z03 (Z00 (Zm ?_))))
  refine Z0O (j := i) rfl rfl rfl rfl underlying47 tz30 underlying30 rfl rfl (by first | exact H4.ibl mem0 | exact H4.ibl mem1 | exact H4.iarg hv | assumption) ZA rfl ZO ZI (fun hb4_1 => ?_)
  refine Zg (Zg (Z02 (Z01 (Z03 (Z00 (Zm ?_))))))
  refine Ze ?_
  refine Z02 (Z01 ?_)
  (first | refine Z08 rfl ?_ ?_ | refine Z05 rfl ?_ ?_) <;> intro hc1
  ·refine Z00 (Zm (Z0b fo124_1 rfl rfl rfl ?_))
   refine Z0w H4 .head (by repeat (first | exact .zero | apply Z1g.succ)) rfl tz30 rfl rfl ZR (fun w5 H5 => ?_)
   refine Z02 ?_
   refine Z0z ?_
   refine Z01 ?_
   refine Zk [2, 3, 7, 8, 9] ?_
   refine Z00 ?_
   refine Z0t rfl rfl rfl rfl (Z0h ZO) ?_
   refine Zm (Z02 ?_)
   refine Z0j (i := (i, hi, lo)) (i + 1, hi, ls.getD i 0) ?_ ?_ (.cons rfl (.cons rfl (.cons rfl (.cons rfl .nil)))) ?_
   ·first | omega | (simp; omega)
   ·have hz : i = 0 := by omega
    subst hz
    exact ⟨H5, ZO, by rw [hhi]; rfl, rfl⟩
   exact (.cons rfl ZN .nil)
  refine Z00 (Zm (Z0b fo124_0 rfl rfl rfl ?_))
  refine Z0w H4 .head (by repeat (first | exact .zero | apply Z1g.succ)) rfl tz30 rfl rfl ZR (fun w6 H6 => ?_)
  refine Z02 ?_
  refine Z0z ?_
  refine Z01 (Z00 ?_)
  refine Z0t rfl rfl rfl rfl (Z0h ZO) ?_
  refine Zm (Z02 ?_)
  refine Z0j (i := (i, hi, lo)) (i + 1, ls.getD i 0, lo) ?_ ?_ (.cons rfl (.cons rfl (.cons rfl (.cons rfl .nil)))) ?_
  ·first | omega | (simp; omega)
  ·have hz : i = 1 := by omega
   subst hz
   exact ⟨H6, ZO, rfl, by rw [hlo]; rfl⟩
  exact (.cons rfl ZN .nil)
 refine Z0y ?_
 refine Z04 ?_
 refine Z04 ?_
 refine Z0d ?_
 refine Z01 (Z03 (Z00 ?_))
 refine Z0e H4 mem0 rfl rfl underlying124 rfl Z1I rfl (.take (.take .nil)) ?_
 refine Z0a H4 (.tail .head) (.zero (.zero .nil)) rfl Z1I rfl rfl ZC (fun w7 H7 => ?_)
 refine Z02 (Z01 ?_)
 refine Zk [2] ?_
 refine Z0f ?_
 refine e_doneC results183 (.cell rfl (Z0k H7 mem1 underlying124 rfl Z1I (.take (.take .nil))) .nil) ?_
 refine ⟨_, rfl, ?_⟩
 have H9 := St.del .head (St.del (.tail .head) H7)
 obtain rfl : i = ls.length := by omega
 have hww := wide_words hU hL
 rw [← hhi, ← hlo] at hww
 exact ⟨by unfold Z5E; rw [← hww.1, ← hww.2], H9.grows⟩
theorem powersP (n : Nat) (hn : n ≤ 400) (w : World) :
  Z0g P 165 [.int .i64 (n : Int)] w fun r w' => ∃ b vl ls, r = .func (.func 181) #[] #[.pointer (some ⟨b, 0, none⟩)] ∧ Ma.Cn 18446744073709551616 ls (5 ^ n) ∧ Grow w w' [As.blk b 47 [vl], As.ri 30 .u64 vl ls] := by
 refine Z0o func165 rfl ntmps165 rfl ?_
 have H0 := St.start w
 refine Z03 (Z00 (Zg (Z02 (Z01 (Z03 (Z00 (Zm ?_)))))))
 refine Zc func124 (powF (n := n) ZO (w := w)) ?_
 rintro _ w1 ⟨vl, ls, rfl, hcn, hG⟩
 have H1 := hG _ _ _ _ H0
 simp only [Zca, Zna] at H1
 have hone1 := Z16 (H1.io mem0)
 refine Zm ?_
 refine Zx (Zx ?_)
 refine Z0H H1 ta47 rfl rfl (fun b1_5 w2 H2 => ?_)
 refine Z0w H2 .head (by repeat (first | exact .zero | apply Z1g.succ)) rfl tz47 rfl rfl ZR (fun w3 H3 => ?_)
 refine Zg (Z02 (Z01 (Z03 (Z00 ?_))))
 refine l_makeFunc rfl rfl (.cons rfl .nil) ?_
 refine Zg (Z02 (Z01 ?_))
 refine Zk [2] ?_
 refine Z0f ?_
 refine Z0l results165 rfl ?_
 refine ⟨_, rfl, ?_⟩
 have H5 := St.front1 (St.front1 H3)
 exact ⟨_, _, _, rfl, hcn, H5.grows⟩
theorem nextP (b : Nat) (vl : Value) (ls : List Int) (n : Nat) (hn : n ≤ 400) (hc : Ma.Cn 18446744073709551616 ls (5 ^ n)) (w : World) (hS : Sep w.heap.size (fps [As.blk b 47 [vl], As.ri 30 .u64 vl ls]) w [As.blk b 47 [vl], As.ri 30 .u64 vl ls]) :
  Z0g P 181 [.pointer (some ⟨b, 0, none⟩)] w fun r w' => vl = r ∧ ∃ vm lm, Ma.Cn 18446744073709551616 lm (5 ^ (n + 1)) ∧ Z3t w w' [As.blk b 47 [vl], As.ri 30 .u64 vl ls] [As.blk b 47 [vm], As.ri 30 .u64 vm lm, As.ri 30 .u64 vl ls] := by
 refine Z0o func181 rfl ntmps181 rfl ?_
 have H0 := St.startS hS
 have hb0 := Z2C n ZO
 have hb1 := Z2C (n + 1) ZO
 have hll := Z3A hc (k := 1203) ZO
 have ev : nv ls = 5 ^ n := hc.val
 refine Z03 (Z00 (Zg (Z02 (Z01 (Z03 (Z00 ?_))))))
 refine Z07 H0 mem0 rfl rfl underlying47 rfl rfl rfl ?_
 refine Zg (Z02 (Z01 (Z03 (Z00 (Zm ?_)))))
 refine Z17 H0 rfl rfl underlying47 ti30 rfl (.cons rfl ZR .nil) rfl rfl rfl (fun b2_1 w1 H1 => ?_)
 refine Zc func58 (mulS (cnU hc) (Uone (x := 5) ZO) ZO (by simp) (by rw [ev]; omega) (by rw [nvone]; decide) (by rw [ev, nvone, ← Int.pow_succ]; exact Int.le_trans hb1 ZO) (H1.io mem2) (H1.ibl mem0)) ?_
 rintro _ w2 ⟨vm, lm, rfl, hm, hG⟩
 have H2 := hG _ _ _ _ H1
 simp only [Zca, Zna] at H2
 have hone1 := Z16 (H2.io mem0)
 refine Zm ?_
 refine Zx (Zx ?_)
 refine Z0w H2 (.tail (.tail .head)) (by repeat (first | exact .zero | apply Z1g.succ)) rfl tz47 rfl rfl ZR (fun w3 H3 => ?_)
 refine Z02 (Z01 ?_)
 refine Zk [2] ?_
 refine Z03 (Z00 (Zm (Zg (Z02 (Z01 ?_)))))
 refine Z0f ?_
 refine Z0l results181 rfl ?_
 refine ⟨_, rfl, ?_⟩
 have H7 := St.del (.tail (.tail (.tail .head))) (St.front3 (St.front1 (St.front3 H3)))
 rw [ev, nvone, ← Int.pow_succ] at hm
 exact ⟨rfl, _, _, hm, St.transS (τ' := [As.blk b 47 [vm], As.ri 30 .u64 vm lm, As.ri 30 .u64 vl ls]) H7⟩
def abM (X : Int) : Int := if Ma.blen X < 128 then X * 2 ^ (128 - Ma.blen X).toNat else X / 2 ^ (Ma.blen X - 128).toNat
def blM (X : Int) : Int := 2 ^ (127 + Ma.blen X).toNat / X + 1
theorem abM_lt {X : Int} (h : 0 < X) : 0 ≤ abM X ∧ abM X < 340282366920938463463374607431768211456 := by
 have hb := (Ma.blen_le_iff (Int.le_of_lt h) (Ma.blen X).toNat).1 (by have := Ma.blen_nonneg X; omega)
 have hb0 := Ma.blen_nonneg X
 have e128 : (2 : Int) ^ 128 = 340282366920938463463374607431768211456 := by decide
 unfold abM
 split
 ·rename_i h1
  have hp := Ma.pow_pos (show (0 : Int) < 2 by omega) (128 - Ma.blen X).toNat
  have h2 : X * 2 ^ (128 - Ma.blen X).toNat < 2 ^ (Ma.blen X).toNat * 2 ^ (128 - Ma.blen X).toNat := Int.mul_lt_mul_of_pos_right hb hp
  rw [← Int.pow_add, show (Ma.blen X).toNat + (128 - Ma.blen X).toNat = 128 from by omega, e128] at h2
  exact ⟨Int.mul_nonneg (Int.le_of_lt h) (Int.le_of_lt hp), h2⟩
 rename_i h1
 have hp := Ma.pow_pos (show (0 : Int) < 2 by omega) (Ma.blen X - 128).toNat
 refine ⟨Int.ediv_nonneg (Int.le_of_lt h) (Int.le_of_lt hp), Int.ediv_lt_of_lt_mul hp ?_⟩
 rw [← e128, ← Int.pow_add, show 128 + (Ma.blen X - 128).toNat = (Ma.blen X).toNat from by omega]
 exact hb
def entS (q : Int) : Int × Int × Int := if q < -342 ∨ 308 < q then (0, 0, 60) else if q < 0 then (blM (5 ^ (-q).toNat), -(127 + Ma.blen (5 ^ (-q).toNat)), 0) else (abM (5 ^ q.toNat), Ma.blen (5 ^ q.toNat) - 128, 0)
theorem bl_fit : ∀ n : Fin 343, n.val = 0 ∨ blM (5 ^ n.val) < 340282366920938463463374607431768211456 := by decide +kernel
theorem Z57 (n : Nat) : (0 : Int) < 5 ^ n := Ma.pow_pos (by omega) n
theorem aboveP (v : Value) (ls : List Int) (X : Int) (hc : Ma.Cn 18446744073709551616 ls X) (hx : 0 < X) (hb : Ma.blen X ≤ 1203) (w : World) (hv : IV w v (ints .u64 ls)) :
  Z0g P 167 [v] w fun r w' => r = .tuple #[Z5E (abM X), .int .i64 (Ma.blen X - 128)] ∧ Grow w w' [] := by
 refine Z0o func167 rfl ntmps167 rfl ?_
 have H0 := St.start w
 have hll := Z3A hc (k := 1203) hb
 have hbp := Ma.blen_pos hx
 have habl := abM_lt hx
 refine Z03 (Z00 ?_)
 refine Z0H H0 Z5a rfl rfl (fun b0_0 w1 H1 => ?_)
 refine Zg (Z02 (Z01 (Z03 (Z00 (Zm ?_)))))
 refine Zp func116 (lenZ hc ZO (H1.iarg hv)) ?_
 refine Z0F rfl rfl rfl rfl (Z0h ZO) ?_
 refine Zg (Z02 (Z01 (Z03 (Z03 (Z00 (Zm ?_))))))
 refine Zl ?_
 refine Z02 (Z01 ?_)
 refine Zk [0, 2, 4, 14] ?_
 (first | refine Z08 rfl ?_ ?_ | refine Z05 rfl ?_ ?_) <;> intro hc0
 ·refine Z03 (Z00 (Zm (Zm ?_)))
  refine Z2u rfl rfl rfl (Z0h ZO) ?_
  obtain ⟨k, hk⟩ : ∃ k : Nat, (128 - Ma.blen X).toNat = k := ⟨_, rfl⟩
  refine Z0q (s := 18) (v' := .int .i64 (k : Int)) rfl (by refine congrArg (Value.int _) ?_; omega) ?_
  have eab : abM X = X * 2 ^ k := by unfold abM; rw [if_pos ZO, hk]
  refine Zc func115 (shlZ (k := k) hc hx ZO ZO (H1.iarg hv)) ?_
  rintro _ w2 ⟨vm, lm, rfl, hm, hG⟩
  have H2 := hG _ _ _ _ H1
  simp only [Zca, Zna] at H2
  refine Zm ?_
  refine Zx (Zx (Zg (Zg (Z02 (Z01 (Z03 (Z00 (Zm ?_))))))))
  refine Zc func183 (wordsP vm lm (cnU hm) (cn_len2 hm (by rw [← eab]; exact habl.2)) w2 (H2.io mem0)) ?_
  rintro _ w3 ⟨rfl, hG⟩
  have H3 := hG _ _ _ _ H2
  simp only [Zca, Zna] at H3
  refine Zm ?_
  refine Z0a H3 (.tail .head) (.zero (.zero .nil)) rfl Z1I rfl rfl ZC (fun w4 H4 => ?_)
  refine Zg (Z02 (Z01 ?_))
  refine Z0f ?_
  refine Z06 ?_
  refine Z0p results167 (.cell rfl (Z0k H4 mem1 underlying124 rfl Z1I (.take (.take .nil))) (.tmp rfl .nil)) rfl ?_
  refine ⟨_, rfl, ?_⟩
  have H6 := St.del .head (St.del (.tail .head) H4)
  exact ⟨by rw [show nv lm = abM X from hm.val.trans eab.symm], H6.grows⟩
 refine Z09 (Z01 ?_)
 refine Zk [0, 2, 4] ?_
 refine Z03 (Z00 (Zm (Zm ?_)))
 obtain ⟨k, hk⟩ : ∃ k : Nat, (Ma.blen X - 128).toNat = k := ⟨_, rfl⟩
 refine Z0q (s := 27) (v' := .int .i64 (k : Int)) rfl (by refine congrArg (Value.int _) ?_; omega) ?_
 have eab : abM X = X / 2 ^ k := by unfold abM; rw [if_neg ZO, hk]
 refine Zc func184 (shrZ (k := k) hc ZO ZO (H1.iarg hv)) ?_
 rintro _ w7 ⟨vm, lm, bm, rfl, hm, hG⟩
 have H7 := hG _ _ _ _ H1
 simp only [Zca, Zna] at H7
 refine Zm ?_
 refine Zx (Zx (Zx (Zg (Zg (Zg (Z02 (Z01 (Z03 (Z00 (Zm ?_))))))))))
 refine Zc func183 (wordsP vm lm (cnU hm) (cn_len2 hm (by rw [← eab]; exact habl.2)) w7 (H7.io mem0)) ?_
 rintro _ w8 ⟨rfl, hG⟩
 have H8 := hG _ _ _ _ H7
 simp only [Zca, Zna] at H8
 refine Zm ?_
 refine Z0a H8 (.tail .head) (.zero (.zero .nil)) rfl Z1I rfl rfl ZC (fun w9 H9 => ?_)
 refine Zg (Z02 (Z01 ?_))
 refine Z0f ?_
 refine Z0p results167 (.cell rfl (Z0k H9 mem1 underlying124 rfl Z1I (.take (.take .nil))) (.tmp rfl .nil)) rfl ?_
 refine ⟨_, rfl, ?_⟩
 have H11 := St.del .head (St.del (.tail .head) H9)
 exact ⟨by rw [show nv lm = abM X from hm.val.trans eab.symm], H11.grows⟩
theorem belowP (v : Value) (ls : List Int) (X : Int) (hc : Ma.Cn 18446744073709551616 ls X) (hx : 0 < X) (hb : Ma.blen X ≤ 1203) (hfit : blM X < 340282366920938463463374607431768211456) (w : World) (hv : IV w v (ints .u64 ls)) :
  Z0g P 166 [v] w fun r w' => r = .tuple #[Z5E (blM X), .int .i64 (-(127 + Ma.blen X))] ∧ Grow w w' [] := by
 refine Z0o func166 rfl ntmps166 rfl ?_
 have H0 := St.start w
 have hll := Z3A hc (k := 1203) hb
 have hbp := Ma.blen_pos hx
 refine Z03 (Z00 ?_)
 refine Z0H H0 Z5a rfl rfl (fun b0_0 w1 H1 => ?_)
 refine Zg (Z02 (Z01 (Z03 (Z00 (Zm ?_)))))
 refine Zp func116 (lenZ hc ZO (H1.iarg hv)) ?_
 refine Z0t rfl rfl rfl rfl (Z0h ZO) ?_
 refine Zg (Z02 (Z01 (Z03 (Z00 ?_))))
 refine Z17 H1 rfl rfl underlying47 ti30 rfl (.cons rfl ZR .nil) rfl rfl rfl (fun b2_0 w2 H2 => ?_)
 refine Zm ?_
 obtain ⟨k, hk⟩ : ∃ k : Nat, (127 + Ma.blen X).toNat = k := ⟨_, rfl⟩
 refine Z0q (s := 15) (v' := .int .i64 (k : Int)) rfl (by refine congrArg (Value.int _) ?_; omega) ?_
 have eb : blM X = 2 ^ k / X + 1 := by unfold blM; rw [hk]
 have b2k : Ma.blen (2 ^ k) = k + 1 := Ma.blen_of (Int.le_refl _) (by rw [Int.pow_succ]; have := Ma.pow_pos (show (0 : Int) < 2 by omega) k; omega)
 have hp := Ma.pow_pos (show (0 : Int) < 2 by omega) k
 refine Zc func115 (shlZ (k := k) (Cnone (x := 1) ZO) ZO (by simp) (by rw [show Ma.blen 1 = 1 from by decide]; omega) (H2.ibl mem0)) ?_
 rintro _ w3 ⟨vt, lt, rfl, ht, hG⟩
 have H3 := hG _ _ _ _ H2
 simp only [Zca, Zna] at H3
 refine Zm ?_
 refine Zx (Zx (Zg (Zg (Z02 (Z01 ?_)))))
 refine Zk [0, 2, 4, 5] ?_
 refine Z03 (Z00 ?_)
 have llt := Z3A ht (k := 1400) (by rw [Int.one_mul, b2k]; omega)
 refine Zm (Zm ?_)
 refine Zc func182 (divZ ht hc ZO ZO (by rw [Int.one_mul, b2k]; omega) ZO ZO (H3.io mem0) (H3.iarg hv)) ?_
 rintro _ w4 ⟨vq, vr, lq, lr, rfl, hq, hr, hG⟩
 have H4 := hG _ _ _ _ H3
 simp only [Zca, Zna] at H4
 refine Zm ?_
 refine Zx (Zx (Zx (Zg (Zg (Zg (Z02 (Z01 (Z03 (Z00 ?_)))))))))
 have evq : nv lq = 2 ^ k / X := by have := hq.val; rwa [Int.one_mul] at this
 have hqn : 0 ≤ 2 ^ k / X := Int.ediv_nonneg (Int.le_of_lt hp) (Int.le_of_lt hx)
 have hb2 := Ma.blen_mono (a := 2 ^ k / X) (b := 2 ^ 128) hqn (by rw [show (2 : Int) ^ 128 = 340282366920938463463374607431768211456 from by decide]; omega)
 have hb3 := Ma.blen_mono (a := 2 ^ k / X + 1) (b := 2 ^ 128) ZO (by rw [show (2 : Int) ^ 128 = 340282366920938463463374607431768211456 from by decide]; omega)
 rw [show Ma.blen (2 ^ 128) = 129 from by decide +kernel] at hb2 hb3
 have llq := Z3A hq (k := 1400) (by rw [Int.one_mul]; omega)
 refine Zm ?_
 refine Z17 H4 rfl rfl underlying47 ti30 rfl (.cons rfl ZR .nil) rfl rfl rfl (fun b4_1 w5 H5 => ?_)
 refine Zc func56 (addS (cnU hq) (Uone (x := 1) ZO) ZO (by simp) (by rw [evq]; omega) (by rw [nvone]; decide) (by rw [evq, nvone]; omega) (H5.io mem1) (H5.ibl mem0)) ?_
 rintro _ w6 ⟨vs, ls2, rfl, hs, hG⟩
 have H6 := hG _ _ _ _ H5
 simp only [Zca, Zna] at H6
 refine Zm ?_
 refine Zx (Zx (Zg (Z02 (Z01 (Z03 (Z00 (Zm ?_)))))))
 refine Zc func183 (wordsP vs ls2 (cnU hs) (cn_len2 hs (by rw [evq, nvone, ← eb]; exact hfit)) w6 (H6.io mem0)) ?_
 rintro _ w7 ⟨rfl, hG⟩
 have H7 := hG _ _ _ _ H6
 simp only [Zca, Zna] at H7
 refine Zm ?_
 refine Z2u rfl rfl rfl (Z0h ZO) ?_
 refine Z0a H7 (.tail (.tail (.tail (.tail (.tail (.tail .head)))))) (.zero (.zero .nil)) rfl Z1I rfl rfl ZC (fun w8 H8 => ?_)
 refine Zg (Z02 (Z01 ?_))
 refine Zk [2, 3] ?_
 refine Z0f ?_
 refine Z0p results166 (.cell rfl (Z0k H8 mem6 underlying124 rfl Z1I (.take (.take .nil))) (.tmp rfl .nil)) rfl ?_
 refine ⟨_, rfl, ?_⟩
 have H15 := St.del .head (St.del (.tail .head) (St.del (.tail (.tail .head)) (St.del (.tail (.tail (.tail .head))) (St.del (.tail (.tail (.tail (.tail .head)))) (St.del (.tail (.tail (.tail (.tail (.tail .head))))) (St.del (.tail (.tail (.tail (.tail (.tail (.tail .head)))))) H8))))))
 exact ⟨by rw [show nv ls2 = blM X from hs.val.trans (by rw [evq, nvone, eb]), Int.zero_sub], H15.grows⟩
theorem wideR (v : Value) (l : List Int) (n : Int) (hR : R16 l n) (hL : l.length ≤ 1048576) (w : World) (hv : IV w v (ints .i64 l)) :
  Z0g P 150 [v] w fun r w' => r = .tuple #[Z5E (n % 340282366920938463463374607431768211456), .bool (decide (128 < Ma.blen n))] ∧ Grow w w' [] := by
 refine Z0o func150 rfl ntmps150 rfl ?_
 have H0 := St.start w
 refine Z03 (Z00 ?_)
 refine Z0H H0 Z5a rfl rfl (fun b0_0 w1 H1 => ?_)
 refine Zg (Z02 (Z01 (Z03 (Z00 (Zm ?_)))))
 refine Zc func136 (wordsR v l n hR ZO w1 (H1.iarg hv)) ?_
 rintro _ w2 ⟨vw, lw, rfl, hcn, hG⟩
 have H2 := hG _ _ _ _ H1
 simp only [Zca, Zna] at H2
 have hlw := Z3A hcn (k := (Ma.blen n).toNat) (by have := Ma.blen_nonneg n; omega)
 have hbl := hR.blen
 have hbn := Ma.blen_nonneg n
 refine Z17 H2 rfl rfl underlying47 ti30 rfl (.cons rfl ZR (.cons rfl ZR .nil)) rfl rfl rfl (fun b1_2 w3 H3 => ?_)
 refine Z2d H3 rfl rfl underlying47 ti30 rfl rfl rfl rfl (by first | (simp [Value.oneCell']; done) | (intro u hu; rw [List.mem_singleton.1 hu]; assumption)) (by first | (simp; done) | (simp; omega)) (by first | (simp; done) | (simp; omega)) (fun v1_3 w4 H4 => ?_)
 have hi2 : ints .u64 (lw ++ [0, 0]) = ints .u64 lw ++ [.int .u64 0, .int .u64 0] := by simp [ints]
 have H5 := H4.cast (σ' := [As.ro 30 v1_3 (ints .u64 (lw ++ [0, 0])), As.blk b0_0 124 [.int .u64 0, .int .u64 0]]) (by rw [hi2])
 refine Zg (Z02 (Z01 (Z03 ?_)))
 have H6 := H5.drewn
 obtain ⟨A2, c2, hv2⟩ := (H6.io mem0).lies (by simp)
 have hUw : U (lw ++ [0, 0]) := fun x hx => (List.mem_append.1 hx).elim (cnU hcn x) (fun h => by have e : x = 0 := (by simpa using h); omega)
 refine Z2t (n := 12) [Zz,Zz,Zz,Zz,Zz,Zz,Zz,Zz,Zz,Zz,Zz,Zz] (fun wS => IS wS .u64 v1_3 (lw ++ [0, 0]) ∧ IS wS .i64 v l) ZK rfl rfl ?_
 apply Zu (L' := [Zy,Zz,Zz,Zz,Zz,Zz,Zz,Zz,Zz,Zz,Zz,Zz]) 0 (⟨H6.io mem0, H6.iarg hv⟩)
 ·intro wS sS
  refine Zm (Z02 ?_)
  exact Z0m rfl
 apply Zu (L' := [Zy,Zy,Zz,Zz,Zz,Zz,Zz,Zz,Zz,Zz,Zz,Zz]) 1 (⟨H6.io mem0, H6.iarg hv⟩)
 ·intro wS sS
  refine Z1o (j := 0) rfl rfl underlying47 tz30 rfl rfl hv2 ZP ZI ?_
  refine Z02 ?_
  exact Z0m rfl
 apply Zu (L' := [Zy,Zy,Zy,Zz,Zz,Zz,Zz,Zz,Zz,Zz,Zz,Zz]) 2 (⟨H6.io mem0, H6.iarg hv⟩)
 ·intro wS sS
  refine Z2m rfl rfl underlying30 rfl hv2 (by first | exact sS.1 | exact sS.2 | exact H6.io mem0 | exact H6.ibl mem1 | exact H6.iarg hv | assumption) ZA ZI (fun hb2_2 => ?_)
  refine Z02 ?_
  exact Z0m rfl
 apply Zu (L' := [Zy,Zy,Zy,Zy,Zz,Zz,Zz,Zz,Zz,Zz,Zz,Zz]) 3 (⟨H6.io mem0, H6.iarg hv⟩)
 ·intro wS sS
  refine Zm (Z02 ?_)
  exact Z0m rfl
 apply Zu (L' := [Zy,Zy,Zy,Zy,Zy,Zz,Zz,Zz,Zz,Zz,Zz,Zz]) 4 (⟨H6.io mem0, H6.iarg hv⟩)
 ·intro wS sS
  refine Z1o (j := 1) rfl rfl underlying47 tz30 rfl rfl hv2 ZP ZI ?_
  refine Z02 ?_
  exact Z0m rfl
 apply Zu (L' := [Zy,Zy,Zy,Zy,Zy,Zy,Zz,Zz,Zz,Zz,Zz,Zz]) 5 (⟨H6.io mem0, H6.iarg hv⟩)
 ·intro wS sS
  refine Z2m rfl rfl underlying30 rfl hv2 (by first | exact sS.1 | exact sS.2 | exact H6.io mem0 | exact H6.ibl mem1 | exact H6.iarg hv | assumption) ZA ZI (fun hb2_5 => ?_)
  refine Z02 ?_
  exact Z0m rfl
 apply Zu (L' := [Zy,Zy,Zy,Zy,Zy,Zy,Zz,Zy,Zz,Zz,Zz,Zz]) 7 (⟨H6.io mem0, H6.iarg hv⟩)
 ·intro wS sS
  refine Zm (Z02 ?_)
  exact Z0m rfl
 refine Z3T (L' := [Zy,Zy,Zy,Zy,Zy,Zy,Zy,Zy,Zz,Zz,Zz,Zz]) (L'' := [Zy,Zy,Zy,Zy,Zy,Zy,Zz,Zy,Zy,Zz,Zz,Zz]) 6 8 ZK rfl rfl rfl rfl ?_ ?_
 ·refine Z0Q rfl rfl pl124 Z5a (.one rfl rfl ZR (.succ .zero) (.one rfl rfl ZR .zero .nil)) ?_
  refine Z02 ?_
  refine Z0D (⟨H6.io mem0, H6.iarg hv⟩) ?_
  refine Z0K (L' := [Zy,Zy,Zy,Zy,Zy,Zy,Zy,Zy,Zy,Zz,Zz,Zz]) 8 ZK rfl rfl ?_
  refine Zp func135 (bitsR v l n hR ZO w4.drew (H6.iarg hv)) ?_
  refine Z02 ?_
  refine Z0D (⟨H6.io mem0, H6.iarg hv⟩) ?_
  apply Zu (L' := [Zy,Zy,Zy,Zy,Zy,Zy,Zy,Zy,Zy,Zy,Zz,Zz]) 9 (⟨H6.io mem0, H6.iarg hv⟩)
  ·intro wS sS
   refine Zw ?_
   refine Z02 ?_
   exact Z0m rfl
  refine Z0K (L' := [Zy,Zy,Zy,Zy,Zy,Zy,Zy,Zy,Zy,Zy,Zy,Zz]) 10 ZK rfl rfl ?_
  refine Z0a H6 (.tail .head) (.zero (.zero .nil)) rfl Z1I rfl rfl ZC (fun w7 H7 => ?_)
  refine Z02 ?_
  refine Z0D (⟨H7.io mem0, H7.iarg hv⟩) ?_
  apply Zu (L' := [Zy,Zy,Zy,Zy,Zy,Zy,Zy,Zy,Zy,Zy,Zy,Zy]) 11 (⟨H7.io mem0, H7.iarg hv⟩)
  ·intro wS sS
   refine Zg (Z02 ?_)
   exact Z0m rfl
  refine Z14 ZK ?_
  refine Z01 ?_
  refine Zk [2, 3] ?_
  refine Z0f ?_
  refine Z0p results150 (.cell rfl (Z0k H7 mem1 underlying124 rfl Z1I (.take (.take .nil))) (.tmp rfl .nil)) rfl ?_
  refine ⟨_, rfl, ?_⟩
  have H9 := St.del .head (St.del (.tail .head) H7)
  have h0 := Z5o hUw 0
  have h1 := Z5o hUw 1
  have ev : nv (lw ++ [0, 0]) = n := by
   show Ma.vb _ _ = _
   rw [Ma.vb_append]
   simp [Ma.vb]
   exact hcn.val
  rw [ev, Int.pow_zero, Int.ediv_one] at h0
  rw [ev, Int.pow_one] at h1
  refine ⟨?_, H9.grows⟩
  unfold Z5E
  rw [h0, h1, show n % 340282366920938463463374607431768211456 / 18446744073709551616 = n / 18446744073709551616 % 18446744073709551616 from by omega, show n % 340282366920938463463374607431768211456 % 18446744073709551616 = n % 18446744073709551616 from by omega]
 refine Zp func135 (bitsR v l n hR ZO w4.drew (H6.iarg hv)) ?_
 refine Z02 ?_
 refine Z0D (⟨H6.io mem0, H6.iarg hv⟩) ?_
 apply Zu (L' := [Zy,Zy,Zy,Zy,Zy,Zy,Zz,Zy,Zy,Zy,Zz,Zz]) 9 (⟨H6.io mem0, H6.iarg hv⟩)
 ·intro wS sS
  refine Zw ?_
  refine Z02 ?_
  exact Z0m rfl
 refine Z0K (L' := [Zy,Zy,Zy,Zy,Zy,Zy,Zy,Zy,Zy,Zy,Zz,Zz]) 6 ZK rfl rfl ?_
 refine Z0Q rfl rfl pl124 Z5a (.one rfl rfl ZR (.succ .zero) (.one rfl rfl ZR .zero .nil)) ?_
 refine Z02 ?_
 refine Z0D (⟨H6.io mem0, H6.iarg hv⟩) ?_
 refine Z0K (L' := [Zy,Zy,Zy,Zy,Zy,Zy,Zy,Zy,Zy,Zy,Zy,Zz]) 10 ZK rfl rfl ?_
 refine Z0a H6 (.tail .head) (.zero (.zero .nil)) rfl Z1I rfl rfl ZC (fun w10 H10 => ?_)
 refine Z02 ?_
 refine Z0D (⟨H10.io mem0, H10.iarg hv⟩) ?_
 apply Zu (L' := [Zy,Zy,Zy,Zy,Zy,Zy,Zy,Zy,Zy,Zy,Zy,Zy]) 11 (⟨H10.io mem0, H10.iarg hv⟩)
 ·intro wS sS
  refine Zg (Z02 ?_)
  exact Z0m rfl
 refine Z14 ZK ?_
 refine Z01 ?_
 refine Z0f ?_
 refine Z0p results150 (.cell rfl (Z0k H10 mem1 underlying124 rfl Z1I (.take (.take .nil))) (.tmp rfl .nil)) rfl ?_
 refine ⟨_, rfl, ?_⟩
 have H12 := St.del .head (St.del (.tail .head) H10)
 have h0 := Z5o hUw 0
 have h1 := Z5o hUw 1
 have ev : nv (lw ++ [0, 0]) = n := by
  show Ma.vb _ _ = _
  rw [Ma.vb_append]
  simp [Ma.vb]
  exact hcn.val
 rw [ev, Int.pow_zero, Int.ediv_one] at h0
 rw [ev, Int.pow_one] at h1
 refine ⟨?_, H12.grows⟩
 unfold Z5E
 rw [h0, h1, show n % 340282366920938463463374607431768211456 / 18446744073709551616 = n / 18446744073709551616 % 18446744073709551616 from by omega, show n % 340282366920938463463374607431768211456 % 18446744073709551616 = n % 18446744073709551616 from by omega]
theorem R16_five : R16 [5] 5 := ⟨fun x hx => by rw [List.mem_singleton.1 hx]; omega, ⟨fun _ => by omega, trivial⟩, by decide⟩
theorem fiveR (n : Int) (hn : n ≤ 400) (w : World) :
  Z0g P 149 [.int .i64 n] w fun r w' => ∃ v ls, r = v ∧ R16 ls (5 ^ n.toNat) ∧ Grow w w' [As.ri 3 .i64 v ls] := by
 refine Z0o func149 rfl ntmps149 rfl ?_
 have H0 := St.start w
 refine Z03 (Z00 (Zg (Z02 (Z01 (Z03 (Z00 ?_))))))
 refine Z17 H0 rfl rfl underlying64 ti3 rfl (.cons rfl ZR .nil) rfl rfl rfl (fun b1_0 w1 H1 => ?_)
 have H2 := H1.blk_own (by decide)
 refine Zg (Z02 (Z01 (Z03 (Z03 (Z00 (Zg (Z02 (Z01 (Z0c ?_)))))))))
 refine Z0v (ι := Nat × List Int × Value) (fun (z0 : Nat × List Int × Value) => match z0 with | ⟨k, lx, vx⟩ => n.toNat - k) (fun (z0 : Nat × List Int × Value) (w' : World) => match z0 with | ⟨k, lx, vx⟩ => St w w.heap.size Z0B ([As.ri 3 .i64 vx lx]) w' ∧ ((k : Int) ≤ n ∨ k = 0) ∧ R16 lx (5 ^ k)) (fun (z0 : Nat × List Int × Value) => match z0 with | ⟨k, lx, vx⟩ => [(3, vx), (4, .int .i64 (k : Int))]) [0] (0, [1], .slice (some ⟨b1_0, 0, none⟩) 1 1) ?_ (.cons rfl .nil) ?_ ?_
 ·exact ⟨H2, .inr rfl, by rw [Int.pow_zero]; exact Z5B⟩
 ·exact (.cons rfl ZN (.cons rfl ZN .nil))
 rintro ⟨k, lx, vx⟩ w3 ⟨H3, hk, hRx⟩
 show RunC P _ _ _ (_ :: _) _
 have hb5 := Z2C k ZO
 have hlx := hRx.len (k := 1203) ZO
 refine Z03 (Z03 (Z00 (Zm (Zm ?_))))
 refine Zl ?_
 refine Z02 (Z01 ?_)
 refine Zk [0, 3, 4, 8] ?_
 (first | refine Z08 rfl ?_ ?_ | refine Z05 rfl ?_ ?_) <;> intro hc0
 ·refine Z09 (Z01 (Z03 (Z0c (Z00 (Zm ?_)))))
  refine Z17 H3 rfl rfl underlying64 ti3 rfl (.cons rfl ZR .nil) rfl rfl rfl (fun b5_1 w4 H4 => ?_)
  refine Z0N rfl rfl func34 rfl rfl (.cons rfl (.cons rfl .nil)) (Z5i _ _ lx [5] _ 5 hRx R16_five ZO (by simp) w4 (H4.io mem1) (H4.ibl mem0)) ?_
  rintro vp w5 ⟨_, lp, rfl, hRp, hG⟩
  have H5 := hG _ _ _ _ H4
  simp only [Zca, Zna] at H5
  refine Zg (Z02 ?_)
  refine Z0z ?_
  refine Z01 (Z00 (Zm ?_))
  refine Z0t rfl rfl rfl rfl (Z0h ZO) ?_
  refine Zg (Z02 ?_)
  have H7 := St.del (.tail .head) (St.del (.tail (.tail .head)) H5)
  refine Z0j (i := (k, lx, vx)) (k + 1, lp, vp) ?_ ?_ (.cons rfl .nil) ?_
  ·first | omega | (simp; omega)
  ·exact ⟨H7, .inl ZO, by rw [Int.pow_succ]; exact hRp⟩
  exact (.cons rfl ZN (.cons rfl ZN .nil))
 refine Z0y ?_
 refine Z04 ?_
 refine Z04 ?_
 refine Z0d ?_
 refine Z01 ?_
 refine Zk [3] ?_
 refine Z03 (Z00 (Zm (Zg (Z02 (Z01 ?_)))))
 refine Z0f ?_
 refine Z0l results149 rfl ?_
 refine ⟨_, rfl, ?_⟩
 obtain rfl : n.toNat = k := by omega
 exact ⟨_, _, rfl, hRx, H3.grows⟩
theorem Z5b {l : List Int} {n : Int} (h : R16 l n) {k : Nat} (hb : n < 2 ^ k) : 16 * l.length ≤ k + 16 := h.len (k := k) ((Ma.blen_le_iff (h.nonneg (by omega)) k).2 hb)
theorem e128 : (2 : Int) ^ 128 = 340282366920938463463374607431768211456 := by decide
theorem entryR (q : Int) (hq : -9223372036854775808 ≤ q ∧ q ≤ 9223372036854775807) (w : World) :
  Z0g P 97 [.int .i64 q] w fun r w' => r = .tuple #[Z5E (entS q).1, .int .i64 (entS q).2.1, .int .i64 (entS q).2.2] ∧ Grow w w' [] := by
 refine Z0o func97 rfl ntmps97 rfl ?_
 have H0 := St.start w
 refine Z03 (Z00 ?_)
 refine Z0H H0 Z5a rfl rfl (fun b0_0 w1 H1 => ?_)
 refine Zg (Zg (Z02 (Z01 (Z03 (Z03 (Z00 (Zm ?_)))))))
 refine Zl ?_
 refine Zm ?_
 apply l_or 2 [0, 2] rfl rfl (.cons rfl (.cons rfl (.cons rfl .nil))) rfl rfl (fun _ => rfl) rfl rfl rfl
 ·intro hg1_3
  refine Zm ?_
  refine Zw ?_
  refine Z02 ?_
  exact Z0n rfl (.cons rfl (ZF hg1_3) (.cons rfl rfl (.cons rfl rfl .nil)))
 refine Z02 (Z01 ?_)
 (first | refine Z08 rfl ?_ ?_ | refine Z05 rfl ?_ ?_) <;> intro hc0
 ·refine Z03 (Z00 ?_)
  refine Z0Q rfl rfl pl124 Z5a .nil ?_
  refine Z0a H1 .head (.zero (.zero .nil)) rfl Z1I rfl rfl ZC (fun w2 H2 => ?_)
  refine Zg (Zg (Z02 (Z01 ?_)))
  refine Zk [2, 3, 4] ?_
  refine Z0f ?_
  refine Z06 ?_
  refine Z0p results97 (.cell rfl (Z0k H2 mem0 underlying124 rfl Z1I (.take (.take .nil))) (.tmp rfl (.tmp rfl .nil))) rfl ?_
  refine ⟨_, rfl, ?_⟩
  have H3 := St.del .head H2
  have e : entS q = (0, 0, 60) := if_pos hc0
  rw [e]
  exact ⟨rfl, H3.grows⟩
 refine Z09 (Z01 (Z03 (Z03 (Z00 (Zm ?_)))))
 refine Zh ?_
 refine Z02 (Z01 ?_)
 (first | refine Z08 rfl ?_ ?_ | refine Z05 rfl ?_ ?_) <;> intro hc1
 ·refine Z03 (Z00 (Zm ?_))
  refine Zc func149 (fiveR q ZO w1) ?_
  rintro vx w4 ⟨_, lx, rfl, hRx, hG⟩
  have H4 := hG _ _ _ _ H1
  simp only [Zca, Zna] at H4
  obtain ⟨n, hn⟩ : ∃ n : Nat, q.toNat = n := ⟨_, rfl⟩
  rw [hn] at hRx
  have hb5 := Z2C n ZO
  have hlx := hRx.len (k := 1203) ZO
  have hbp := Ma.blen_pos (Z57 n)
  have habl := abM_lt (Z57 n)
  have een : entS q = (abM (5 ^ n), Ma.blen (5 ^ n) - 128, 0) := by unfold entS; rw [if_neg ZO, if_neg ZO, hn]
  refine Zg (Z02 (Z01 ?_))
  refine Zk [2, 5] ?_
  refine Z03 (Z00 (Zm ?_))
  refine Z0J rfl rfl func135 rfl rfl (.cons rfl .nil) (bitsR vx lx _ hRx ZO w4 (H4.io mem0)) ?_
  refine Zg (Z02 (Z01 (Z03 (Z03 (Z00 (Zm ?_))))))
  refine Zf ?_
  refine Z02 (Z01 ?_)
  (first | refine Z08 rfl ?_ ?_ | refine Z05 rfl ?_ ?_) <;> intro hc2
  ·refine Z03 (Z00 (Zm (Zm ?_)))
   refine Z0F rfl rfl rfl rfl (Z0h ZO) ?_
   obtain ⟨k, hk⟩ : ∃ k : Nat, (128 - Ma.blen (5 ^ n)).toNat = k := ⟨_, rfl⟩
   refine Z0q (s := 37) (v' := .int .i64 (k : Int)) rfl (by refine congrArg (Value.int _) ?_; omega) ?_
   have eab : abM (5 ^ n) = 5 ^ n * 2 ^ k := by
    unfold abM
    rcases Int.lt_or_eq_of_le hc2 with h | h
    ·rw [if_pos h, hk]
    rw [if_neg ZO]
    have hk0 : k = 0 := by omega
    rw [hk0, h]
    simp
   refine Z0N rfl rfl func86 rfl rfl (.cons rfl (.cons rfl .nil)) (leftR vx lx _ hRx ZO k ZO w4 (H4.io mem0)) ?_
   rintro vy w5 ⟨_, ly, rfl, hRy, hG⟩
   have H5 := hG _ _ _ _ H4
   simp only [Zca, Zna] at H5
   have hly := Z5b hRy (k := 128) (by rw [← eab, e128]; exact habl.2)
   refine Z0N rfl rfl func150 rfl rfl (.cons rfl .nil) (wideR vy ly _ hRy ZO w5 (H5.io mem0)) ?_
   rintro _ w6 ⟨rfl, hG⟩
   have H6 := hG _ _ _ _ H5
   simp only [Zca, Zna] at H6
   refine Zm ?_
   refine Zx (Zx ?_)
   refine Z0H H6 Z5a rfl rfl (fun b7_8 w7 H7 => ?_)
   refine Z0a H7 .head (.zero (.zero .nil)) rfl Z1I rfl rfl ZC (fun w8 H8 => ?_)
   refine Zg (Z02 (Z01 ?_))
   refine Zk [2, 6, 7] ?_
   refine Z03 (Z00 ?_)
   have hmod : 5 ^ n * 2 ^ k % 340282366920938463463374607431768211456 = abM (5 ^ n) := by rw [← eab]; exact Int.emod_eq_of_lt habl.1 habl.2
   refine Z0e H8 mem0 rfl rfl underlying124 rfl Z1I rfl (.take (.take .nil)) ?_
   refine Zm ?_
   refine Z0F rfl rfl rfl rfl (Z0h ZO) ?_
   refine Z0a H8 (.tail (.tail (.tail .head))) (.zero (.zero .nil)) rfl Z1I rfl rfl ZC (fun w9 H9 => ?_)
   refine Zg (Zg (Z02 (Z01 ?_)))
   refine Z0f ?_
   refine Z06 ?_
   refine Z06 ?_
   refine Z0p results97 (.cell rfl (Z0k H9 mem3 underlying124 rfl Z1I (.take (.take .nil))) (.tmp rfl (.tmp rfl .nil))) rfl ?_
   refine ⟨_, rfl, ?_⟩
   have H13 := St.del .head (St.del (.tail .head) (St.del (.tail (.tail .head)) (St.del (.tail (.tail (.tail .head))) H9)))
   rw [een, hmod]
   exact ⟨rfl, H13.grows⟩
  refine Z09 (Z01 (Z03 (Z00 (Zm (Zm ?_)))))
  refine Z0F rfl rfl rfl rfl (Z0h ZO) ?_
  obtain ⟨k, hk⟩ : ∃ k : Nat, (Ma.blen (5 ^ n) - 128).toNat = k := ⟨_, rfl⟩
  refine Z0q (s := 48) (v' := .int .i64 (k : Int)) rfl (by refine congrArg (Value.int _) ?_; omega) ?_
  have eab : abM (5 ^ n) = 5 ^ n / 2 ^ k := by unfold abM; rw [if_neg ZO, hk]
  refine Z0N rfl rfl func151 rfl rfl (.cons rfl (.cons rfl .nil)) (rightR vx lx _ hRx ZO k ZO w4 (H4.io mem0)) ?_
  rintro _ w14 ⟨vy, ly, rfl, hRy, hG⟩
  have H14 := hG _ _ _ _ H4
  simp only [Zca, Zna] at H14
  refine Zm ?_
  refine Zx (Zx (Zg (Zg (Z02 (Z01 ?_)))))
  refine Zk [2, 6, 9] ?_
  refine Z03 (Z00 ?_)
  have hly := Z5b hRy (k := 128) (by rw [← eab, e128]; exact habl.2)
  refine Zm ?_
  refine Z0N rfl rfl func150 rfl rfl (.cons rfl .nil) (wideR vy ly _ hRy ZO w14 (H14.io mem0)) ?_
  rintro _ w15 ⟨rfl, hG⟩
  have H15 := hG _ _ _ _ H14
  simp only [Zca, Zna] at H15
  refine Zm ?_
  refine Zx (Zx ?_)
  refine Z0H H15 Z5a rfl rfl (fun b10_5 w16 H16 => ?_)
  refine Z0a H16 .head (.zero (.zero .nil)) rfl Z1I rfl rfl ZC (fun w17 H17 => ?_)
  refine Zg (Z02 (Z01 (Z03 (Z00 ?_))))
  have hmod : 5 ^ n / 2 ^ k % 340282366920938463463374607431768211456 = abM (5 ^ n) := by rw [← eab]; exact Int.emod_eq_of_lt habl.1 habl.2
  refine Z0e H17 mem0 rfl rfl underlying124 rfl Z1I rfl (.take (.take .nil)) ?_
  refine Zm ?_
  refine Z0F rfl rfl rfl rfl (Z0h ZO) ?_
  refine Z0a H17 (.tail (.tail (.tail .head))) (.zero (.zero .nil)) rfl Z1I rfl rfl ZC (fun w18 H18 => ?_)
  refine Zg (Zg (Z02 (Z01 ?_)))
  refine Z0f ?_
  refine Z06 ?_
  refine Z0p results97 (.cell rfl (Z0k H18 mem3 underlying124 rfl Z1I (.take (.take .nil))) (.tmp rfl (.tmp rfl .nil))) rfl ?_
  refine ⟨_, rfl, ?_⟩
  have H22 := St.del .head (St.del (.tail .head) (St.del (.tail (.tail .head)) (St.del (.tail (.tail (.tail .head))) H18)))
  rw [een, hmod]
  exact ⟨rfl, H22.grows⟩
 refine Z09 (Z01 ?_)
 refine Zk [0, 2] ?_
 refine Z03 (Z00 (Zm ?_))
 refine Z2u rfl rfl rfl (Z0h ZO) ?_
 refine Zc func149 (fiveR (0 - q) ZO w1) ?_
 rintro vx w23 ⟨_, lx, rfl, hRx, hG⟩
 have H23 := hG _ _ _ _ H1
 simp only [Zca, Zna] at H23
 obtain ⟨n, hn⟩ : ∃ n : Nat, (-q).toNat = n := ⟨_, rfl⟩
 rw [show (0 - q).toNat = n from by omega] at hRx
 have hb5 := Z2C n ZO
 have hlx := hRx.len (k := 1203) ZO
 have hbp := Ma.blen_pos (Z57 n)
 have hfit : blM (5 ^ n) < 340282366920938463463374607431768211456 := (bl_fit ⟨n, ZO⟩).resolve_left (by show ¬ n = 0; omega)
 have een : entS q = (blM (5 ^ n), -(127 + Ma.blen (5 ^ n)), 0) := by unfold entS; rw [if_neg ZO, if_pos ZO, hn]
 refine Zg (Z02 (Z01 (Z03 (Z00 (Zm ?_)))))
 refine Z0J rfl rfl func135 rfl rfl (.cons rfl .nil) (bitsR vx lx _ hRx ZO w23 (H23.io mem0)) ?_
 refine Zg (Z02 (Z01 (Z03 (Z00 ?_))))
 refine Z17 H23 rfl rfl underlying64 ti3 rfl (.cons rfl ZR .nil) rfl rfl rfl (fun b14_0 w24 H24 => ?_)
 refine Zm ?_
 refine Z0t rfl rfl rfl rfl (Z0h ZO) ?_
 obtain ⟨k, hk⟩ : ∃ k : Nat, (127 + Ma.blen (5 ^ n)).toNat = k := ⟨_, rfl⟩
 refine Z0q (s := 68) (v' := .int .i64 (k : Int)) rfl (by refine congrArg (Value.int _) ?_; omega) ?_
 have eb : blM (5 ^ n) = 2 ^ k / 5 ^ n + 1 := by unfold blM; rw [hk]
 have hp2 := Ma.pow_pos (show (0 : Int) < 2 by omega) k
 have hqn : (0 : Int) ≤ 2 ^ k / 5 ^ n := Int.ediv_nonneg (Int.le_of_lt hp2) (Int.le_of_lt (Z57 n))
 refine Z0N rfl rfl func86 rfl rfl (.cons rfl (.cons rfl .nil)) (leftR _ [1] 1 Z5B (by simp) k ZO w24 (H24.ibl mem0)) ?_
 rintro vy w25 ⟨_, ly, rfl, hRy, hG⟩
 have H25 := hG _ _ _ _ H24
 simp only [Zca, Zna] at H25
 have hly := Z5b hRy (k := k + 1) (by rw [Int.one_mul, Int.pow_succ]; omega)
 rw [Int.one_mul] at hRy
 refine Zm ?_
 refine Z0N rfl rfl func152 rfl rfl (.cons rfl (.cons rfl .nil)) (overR _ _ ly lx _ _ hRy hRx ZO ZO (Z57 n) w25 (H25.io mem0) (H25.io mem2)) ?_
 rintro _ w26 ⟨vq, vr, lq, lr, rfl, hRq, hRr, hG⟩
 have H26 := hG _ _ _ _ H25
 simp only [Zca, Zna] at H26
 refine Zm ?_
 refine Zx (Zx (Zg (Zg (Z02 (Z01 ?_)))))
 refine Zk [2, 14, 15] ?_
 refine Z03 (Z00 ?_)
 have hlq := Z5b hRq (k := 128) (by rw [e128]; omega)
 refine Zm ?_
 refine Z17 H26 rfl rfl underlying64 ti3 rfl (.cons rfl ZR .nil) rfl rfl rfl (fun b15_1 w27 H27 => ?_)
 refine Z0N rfl rfl func101 rfl rfl (.cons rfl (.cons rfl .nil)) (sumR _ _ lq [1] _ 1 hRq Z5B ZO (by simp) w27 (H27.io mem1) (H27.ibl mem0)) ?_
 rintro vs w28 ⟨_, ls, rfl, hRs, hG⟩
 have H28 := hG _ _ _ _ H27
 simp only [Zca, Zna] at H28
 have hlsm := Z5b hRs (k := 128) (by rw [e128]; omega)
 refine Z0N rfl rfl func150 rfl rfl (.cons rfl .nil) (wideR vs ls _ hRs ZO w28 (H28.io mem0)) ?_
 rintro _ w29 ⟨rfl, hG⟩
 have H29 := hG _ _ _ _ H28
 simp only [Zca, Zna] at H29
 refine Zm ?_
 refine Zx (Zx ?_)
 refine Z0H H29 Z5a rfl rfl (fun b15_7 w30 H30 => ?_)
 refine Z0a H30 .head (.zero (.zero .nil)) rfl Z1I rfl rfl ZC (fun w31 H31 => ?_)
 refine Zg (Z02 (Z01 (Z03 (Z00 ?_))))
 have hmod : (2 ^ k / 5 ^ n + 1) % 340282366920938463463374607431768211456 = blM (5 ^ n) := by rw [eb]; exact Int.emod_eq_of_lt ZO ZO
 refine Z0e H31 mem0 rfl rfl underlying124 rfl Z1I rfl (.take (.take .nil)) ?_
 refine Zm ?_
 refine Z0t rfl rfl rfl rfl (Z0h ZO) ?_
 refine Z2u rfl rfl rfl (Z0h ZO) ?_
 refine Z0a H31 (.tail (.tail (.tail (.tail (.tail (.tail (.tail (.tail .head)))))))) (.zero (.zero .nil)) rfl Z1I rfl rfl ZC (fun w32 H32 => ?_)
 refine Zg (Zg (Z02 (Z01 ?_)))
 refine Z0f ?_
 refine Z0p results97 (.cell rfl (Z0k H32 mem8 underlying124 rfl Z1I (.take (.take .nil))) (.tmp rfl (.tmp rfl .nil))) rfl ?_
 refine ⟨_, rfl, ?_⟩
 have H41 := St.del .head (St.del (.tail .head) (St.del (.tail (.tail .head)) (St.del (.tail (.tail (.tail .head))) (St.del (.tail (.tail (.tail (.tail .head)))) (St.del (.tail (.tail (.tail (.tail (.tail .head))))) (St.del (.tail (.tail (.tail (.tail (.tail (.tail .head)))))) (St.del (.tail (.tail (.tail (.tail (.tail (.tail (.tail .head))))))) (St.del (.tail (.tail (.tail (.tail (.tail (.tail (.tail (.tail .head)))))))) H32))))))))
 rw [een, hmod, Int.zero_sub]
 exact ⟨rfl, H41.grows⟩
theorem exactP (q : Int) (w : World) :
  Z0g P 55 [.int .i64 q] w fun r w' => r = .bool (decide (0 ≤ q ∧ q ≤ 55)) ∧ w = w' := by
 refine Z0o func55 rfl ntmps55 rfl ?_
 refine Z03 (Z00 (Zg (Z02 (Z01 (Z03 (Z00 (Zm ?_)))))))
 refine Zh ?_
 refine Zm ?_
 apply Z13 2 [] rfl rfl (.cons rfl .nil) rfl rfl (fun _ => rfl) rfl rfl rfl
 ·intro hg1_3
  refine Zm ?_
  refine Zf ?_
  refine Z02 ?_
  exact Z0n rfl (.cons rfl (ZT hg1_3) .nil)
 refine Zg (Z02 (Z01 ?_))
 refine Z0f ?_
 refine Z0l results55 rfl ?_
 refine ⟨_, rfl, ?_⟩
 exact ⟨rfl, rfl⟩
theorem exactR6 (q : Int) (w : World) :
  Z0g P 100 [.int .i64 q] w fun r w' => r = .bool (decide (0 ≤ q ∧ q ≤ 55)) ∧ w = w' := by
 refine Z0o func100 rfl ntmps100 rfl ?_
 refine Z03 (Z00 (Zg (Z02 (Z01 (Z03 (Z00 (Zm ?_)))))))
 refine Zh ?_
 refine Zm ?_
 apply Z13 2 [] rfl rfl (.cons rfl .nil) rfl rfl (fun _ => rfl) rfl rfl rfl
 ·intro hg1_3
  refine Zm ?_
  refine Zf ?_
  refine Z02 ?_
  exact Z0n rfl (.cons rfl (ZT hg1_3) .nil)
 refine Zg (Z02 (Z01 ?_))
 refine Z0f ?_
 refine Z0l results100 rfl ?_
 refine ⟨_, rfl, ?_⟩
 exact ⟨rfl, rfl⟩
def Z1s (q : Int) : Int × Int × Int := if q < -342 ∨ 308 < q then (0, 0, 60) else ((q + 342) / 16, (q + 342) % 16, 0)
def Z0E (s : Int) : Int × Int × Int := if s < 0 ∨ 41 ≤ s then (0, 0, 61) else (-342 + 16 * s, if s = 40 then 11 else 16, 0)
theorem whereP (q : Int) (hq : -9223372036854775808 ≤ q ∧ q ≤ 9223372036854775807) (w : World) :
  Z0g P 65 [.int .i64 q] w fun r w' => r = .tuple #[.int .i64 (Z1s q).1, .int .i64 (Z1s q).2.1, .int .i64 (Z1s q).2.2] ∧ w = w' := by
 refine Z0o func65 rfl ntmps65 rfl ?_
 refine Z03 (Z00 (Zg (Zg (Zg (Z02 (Z01 (Z03 (Z03 (Z00 (Zm ?_))))))))))
 refine Zl ?_
 refine Zm ?_
 apply l_or 2 [0] rfl rfl (.cons rfl (.cons rfl .nil)) rfl rfl (fun _ => rfl) rfl rfl rfl
 ·intro hg1_3
  refine Zm ?_
  refine Zw ?_
  refine Z02 ?_
  exact Z0n rfl (.cons rfl (ZF hg1_3) (.cons rfl rfl .nil))
 refine Z02 (Z01 ?_)
 (first | refine Z08 rfl ?_ ?_ | refine Z05 rfl ?_ ?_) <;> intro hc0
 ·refine Z03 (Z00 (Zg (Zg (Zg (Z02 (Z01 ?_))))))
  refine Zk [2, 3, 4] ?_
  refine Z0f ?_
  refine Z06 ?_
  refine Z0p results65 (.tmp rfl (.tmp rfl (.tmp rfl .nil))) rfl ?_
  refine ⟨_, rfl, ?_⟩
  have e : Z1s q = (0, 0, 60) := if_pos hc0
  rw [e]
  exact ⟨rfl, rfl⟩
 refine Z09 (Z01 (Z03 (Z00 (Zm ?_))))
 refine Z0F rfl rfl rfl rfl (Z0h ZO) ?_
 refine Zg (Z02 (Z01 (Z03 (Z00 (Zm ?_)))))
 refine Z2W rfl rfl rfl rfl ZO (Z4x ZO) ?_
 refine Zm ?_
 refine Z2x rfl rfl rfl rfl ZO (Z2P ZO) ?_
 refine Zg (Zg (Zg (Z02 (Z01 ?_))))
 refine Zk [2, 3, 4] ?_
 refine Z0f ?_
 refine Z0p results65 (.tmp rfl (.tmp rfl (.tmp rfl .nil))) rfl ?_
 refine ⟨_, rfl, ?_⟩
 have e : Z1s q = ((q + 342) / 16, (q + 342) % 16, 0) := if_neg hc0
 rw [e, Int.sub_neg]
 exact ⟨rfl, rfl⟩
theorem whereR (q : Int) (hq : -9223372036854775808 ≤ q ∧ q ≤ 9223372036854775807) (w : World) :
  Z0g P 66 [.int .i64 q] w fun r w' => r = .tuple #[.int .i64 (Z1s q).1, .int .i64 (Z1s q).2.1, .int .i64 (Z1s q).2.2] ∧ w = w' := by
 refine Z0o func66 rfl ntmps66 rfl ?_
 refine Z03 (Z00 (Zg (Zg (Zg (Z02 (Z01 (Z03 (Z03 (Z00 (Zm ?_))))))))))
 refine Zl ?_
 refine Zm ?_
 apply l_or 2 [0] rfl rfl (.cons rfl (.cons rfl .nil)) rfl rfl (fun _ => rfl) rfl rfl rfl
 ·intro hg1_3
  refine Zm ?_
  refine Zw ?_
  refine Z02 ?_
  exact Z0n rfl (.cons rfl (ZF hg1_3) (.cons rfl rfl .nil))
 refine Z02 (Z01 ?_)
 (first | refine Z08 rfl ?_ ?_ | refine Z05 rfl ?_ ?_) <;> intro hc0
 ·refine Z03 (Z00 (Zg (Zg (Zg (Z02 (Z01 ?_))))))
  refine Zk [2, 3, 4] ?_
  refine Z0f ?_
  refine Z06 ?_
  refine Z0p results66 (.tmp rfl (.tmp rfl (.tmp rfl .nil))) rfl ?_
  refine ⟨_, rfl, ?_⟩
  have e : Z1s q = (0, 0, 60) := if_pos hc0
  rw [e]
  exact ⟨rfl, rfl⟩
 refine Z09 (Z01 (Z03 (Z00 (Zm ?_))))
 refine Z0F rfl rfl rfl rfl (Z0h ZO) ?_
 refine Z2W rfl rfl rfl rfl ZO (Z4x ZO) ?_
 refine Zm ?_
 refine Z0F rfl rfl rfl rfl (Z0h ZO) ?_
 refine Z2x rfl rfl rfl rfl ZO (Z2P ZO) ?_
 refine Zg (Zg (Zg (Z02 (Z01 ?_))))
 refine Z0f ?_
 refine Z0p results66 (.tmp rfl (.tmp rfl (.tmp rfl .nil))) rfl ?_
 refine ⟨_, rfl, ?_⟩
 have e : Z1s q = ((q + 342) / 16, (q + 342) % 16, 0) := if_neg hc0
 rw [e, Int.sub_neg]
 exact ⟨rfl, rfl⟩
theorem firstP (s : Int) (hs : -9223372036854775808 ≤ s ∧ s ≤ 9223372036854775807) (w : World) :
  Z0g P 128 [.int .i64 s] w fun r w' => r = .tuple #[.int .i64 (Z0E s).1, .int .i64 (Z0E s).2.1, .int .i64 (Z0E s).2.2] ∧ w = w' := by
 refine Z0o func128 rfl ntmps128 rfl ?_
 refine Z03 (Z00 (Zg (Zg (Zg (Z02 (Z01 (Z03 (Z03 (Z00 (Zm ?_))))))))))
 refine Zl ?_
 refine Zm ?_
 apply l_or 2 [0] rfl rfl (.cons rfl (.cons rfl .nil)) rfl rfl (fun _ => rfl) rfl rfl rfl
 ·intro hg1_3
  refine Zm ?_
  refine Zh ?_
  refine Z02 ?_
  exact Z0n rfl (.cons rfl (ZF hg1_3) (.cons rfl rfl .nil))
 refine Z02 (Z01 ?_)
 (first | refine Z08 rfl ?_ ?_ | refine Z05 rfl ?_ ?_) <;> intro hc0
 ·refine Z03 (Z00 (Zg (Zg (Zg (Z02 (Z01 ?_))))))
  refine Zk [2, 3, 4] ?_
  refine Z0f ?_
  refine Z06 ?_
  refine Z0p results128 (.tmp rfl (.tmp rfl (.tmp rfl .nil))) rfl ?_
  refine ⟨_, rfl, ?_⟩
  have e : Z0E s = (0, 0, 61) := if_pos hc0
  rw [e]
  exact ⟨rfl, rfl⟩
 refine Z09 (Z01 (Z03 (Z00 (Zm ?_))))
 refine Z1m rfl rfl rfl rfl (Z0h ZO) ?_
 refine Z0t rfl rfl rfl rfl (Z0h ZO) ?_
 refine Zg (Z02 (Z01 (Z03 (Z00 (Zm (Zm ?_))))))
 refine Z0F rfl rfl rfl rfl (Z0h ZO) ?_
 refine l_min rfl rfl rfl rfl ?_
 refine Zg (Zg (Zg (Z02 (Z01 ?_))))
 refine Zk [2, 3, 4] ?_
 refine Z0f ?_
 refine Z0p results128 (.tmp rfl (.tmp rfl (.tmp rfl .nil))) rfl ?_
 refine ⟨_, rfl, ?_⟩
 have e : Z0E s = (-342 + 16 * s, if s = 40 then 11 else 16, 0) := if_neg hc0
 rw [e, show min 16 (309 - (-342 + 16 * s)) = (if s = 40 then 11 else 16) from by split <;> omega]
 exact ⟨rfl, rfl⟩
abbrev wrow (n : Int) : List Value := [.int .u64 (n / 18446744073709551616), .int .u64 (n % 18446744073709551616)]
def segR (s : Int) : List (List Value) := (List.range (Z0E s).2.1.toNat).map fun i : Nat => wrow (entS ((Z0E s).1 + (i : Int))).1
theorem segR_at (s : Int) (i : Nat) (h : i < (Z0E s).2.1.toNat) : (segR s)[i]? = some (wrow (entS ((Z0E s).1 + i)).1) := by
 simp [segR, h]
theorem segR_len (s : Int) : (segR s).length = (Z0E s).2.1.toNat := by simp [segR]
theorem segR_rows (s : Int) : Z1j 2 (segR s) := fun r hr => by
 obtain ⟨i, _, rfl⟩ := List.mem_map.1 hr
 exact ⟨rfl, by simp [Value.oneCell']⟩
theorem segR_eq {rs : List (List Value)} {s : Int} (hl : rs.length = (Z0E s).2.1.toNat) (h : ∀ j : Nat, j < rs.length → rs[j]? = some (wrow (entS ((Z0E s).1 + j)).1)) : rs = segR s := by
 apply List.ext_getElem?
 intro j
 by_cases hj : j < rs.length
 ·rw [h j hj, segR_at s j ZO]
 rw [List.getElem?_eq_none ZO, List.getElem?_eq_none (by rw [segR_len]; omega)]
theorem entS_neg {q : Int} (n : Nat) (h : -342 ≤ q ∧ q < 0) (hn : (n : Int) = -q) : (entS q).1 = blM (5 ^ n) := by
 unfold entS
 rw [if_neg (by omega), if_pos h.2, show (-q).toNat = n from by omega]
theorem entS_pos {q : Int} (n : Nat) (h : 0 ≤ q ∧ q ≤ 308) (hn : (n : Int) = q) : (entS q).1 = abM (5 ^ n) := by
 unfold entS
 rw [if_neg (by omega), if_neg (by omega), show q.toNat = n from by omega]
theorem Z4Q {rs : List (List Value)} {i : Nat} {x : List Value} (hi : i < rs.length) (j : Nat) : (rs.set i x)[j]? = if i = j then some x else rs[j]? := by
 rw [List.getElem?_set]
 split
 ·rename_i h; subst h; simp [hi]
 rfl
theorem segP (s : Int) (hs : -9223372036854775808 ≤ s ∧ s ≤ 9223372036854775807) (w : World) :
  Z0g P 129 [.int .i64 s] w fun r w' => ∃ v, r = .tuple #[v, .int .i64 (Z0E s).2.2] ∧ Grow w w' [As.rk 124 2 v (segR s)] := by
 refine Z0o func129 rfl ntmps129 rfl ?_
 have H0 := St.start w
 refine Z03 (Z00 (Zg (Zg (Z02 (Z01 (Z03 (Z00 (Zm ?_))))))))
 refine Zp func128 (firstP s hs _) ?_
 refine Zm ?_
 refine Zx (Zx (Zx (Zg (Zg (Zg (Z02 (Z01 (Z03 (Z03 (Z00 (Zm ?_)))))))))))
 refine Zo ?_
 refine Z02 (Z01 ?_)
 refine Zk [4, 5, 6, 19] ?_
 (first | refine Z08 rfl ?_ ?_ | refine Z05 rfl ?_ ?_) <;> intro hc0
 ·have hbad : s < 0 ∨ 41 ≤ s := by
   rcases Int.lt_or_le s 0 with h | h
   ·exact .inl h
   rcases Int.lt_or_le s 41 with h2 | h2
   ·exact absurd (show (Z0E s).2.2 = 0 by unfold Z0E; rw [if_neg ZO]) hc0
   exact .inr h2
  refine Z03 (Z00 (Zm (Zg (Zg (Z02 (Z01 ?_))))))
  refine Z0f ?_
  refine Z06 ?_
  refine Z0x results129 rfl rfl ?_
  refine ⟨_, rfl, ?_⟩
  have e : Z0E s = (0, 0, 61) := if_pos hbad
  have es : segR s = [] := by unfold segR; rw [e]; rfl
  rw [es, e]
  exact ⟨_, rfl, (H0.nilk 124 2).grows⟩
 have hgood : 0 ≤ s ∧ s ≤ 40 := by
  rcases Int.lt_or_le s 0 with h | h
  ·exact absurd (show (Z0E s).2.2 = 61 by unfold Z0E; rw [if_pos ZO]) ZO
  rcases Int.lt_or_le s 41 with h2 | h2
  ·omega
  exact absurd (show (Z0E s).2.2 = 61 by unfold Z0E; rw [if_pos ZO]) ZO
 have hfe : Z0E s = (-342 + 16 * s, if s = 40 then 11 else 16, 0) := by unfold Z0E; rw [if_neg ZO]
 obtain ⟨q, hqd⟩ : ∃ q : Int, (Z0E s).1 = q := ⟨_, rfl⟩
 obtain ⟨nn, hnd⟩ : ∃ nn : Nat, (Z0E s).2.1 = (nn : Int) := ⟨(Z0E s).2.1.toNat, by rw [hfe]; dsimp only; split <;> omega⟩
 have hq1 : q = -342 + 16 * s := by rw [← hqd, hfe]
 have hn1 : (nn : Int) = if s = 40 then 11 else 16 := by rw [← hnd, hfe]
 have hnb : 11 ≤ nn ∧ nn ≤ 16 ∧ q + nn ≤ 309 := by split at hn1 <;> omega
 rw [hqd, hnd]
 refine Z09 (Z01 (Z03 (Z00 (Zm ?_))))
 refine k_make (m := nn) (c := nn) H0 rfl rfl underlying206 ti124 rfl (by decide) (by simp [Value.oneCell']) rfl rfl ZO ZO ZO ZO (by simp only [maxLen]; omega) ZO (fun v4_1 w1 H1 => ?_)
 refine Zg (Z02 (Z01 ?_))
 refine Zk [4, 5, 7] ?_
 refine Z03 (Z00 (Zm ?_))
 refine Z2u rfl rfl rfl (Z0h ZO) ?_
 refine Z2U rfl rfl rfl rfl ?_
 refine Zm ?_
 refine l_min rfl rfl rfl rfl ?_
 refine Zg (Z02 (Z01 (Z03 (Z00 (Zm (Zm ?_))))))
 refine Z0t rfl rfl rfl rfl (Z0h ZO) ?_
 refine Z0F rfl rfl rfl rfl (Z0h ZO) ?_
 refine Z2u rfl rfl rfl (Z0h ZO) ?_
 refine Z2U rfl rfl rfl rfl ?_
 obtain ⟨e0, he0⟩ : ∃ e0 : Nat, max (0 - (q + min (max (0 - q) 0) (nn : Int) - 1)) 0 = (e0 : Int) := ⟨(max (0 - (q + min (max (0 - q) 0) (nn : Int) - 1)) 0).toNat, ZO⟩
 refine Z0q (s := 33) (v' := .int .i64 (e0 : Int)) rfl (by rw [he0]) ?_
 refine Zc func165 (powersP e0 ZO w1) ?_
 rintro _ w2 ⟨b, vl, ls, rfl, hcn, hG⟩
 have H2 := hG _ _ _ _ H1
 simp only [Zca, Zna] at H2
 refine Zg (Z02 (Z01 (Z03 (Z03 (Z00 ?_)))))
 obtain ⟨dn, hdn⟩ : ∃ dn : Nat, min (max (0 - q) 0) (nn : Int) = (dn : Int) := ⟨(min (max (0 - q) 0) (nn : Int)).toNat, ZO⟩
 rw [hdn] at he0 ⊢
 refine Zm ?_
 refine Z0F rfl rfl rfl rfl (Z0h ZO) ?_
 refine Zg (Z02 (Z01 ?_))
 refine Zk [4, 5, 7, 8, 9, 10] ?_
 refine Z0c ?_
 refine Z0v (ι := Nat × List (List Value) × Value × List Int × Nat) (fun (z0 : Nat × List (List Value) × Value × List Int × Nat) => match z0 with | ⟨k, rs, vl, ls, e⟩ => k) (fun (z0 : Nat × List (List Value) × Value × List Int × Nat) (w' : World) => match z0 with | ⟨k, rs, vl, ls, e⟩ => St w w.heap.size Z0B ([As.blk b 47 [vl], As.ri 30 .u64 vl ls, As.rk 124 2 v4_1 rs]) w' ∧ k ≤ dn ∧ rs.length = nn ∧ Z1j 2 rs ∧ Ma.Cn 18446744073709551616 ls (5 ^ e) ∧ e ≤ 343 ∧ (0 < k → (e : Int) = -(q + k - 1)) ∧ ∀ j : Nat, k ≤ j → j < dn → rs[j]? = some (wrow (entS (q + j)).1)) (fun (z0 : Nat × List (List Value) × Value × List Int × Nat) => match z0 with | ⟨k, rs, vl, ls, e⟩ => [(10, .int .i64 ((k : Int) - 1))]) [4, 5, 7, 8, 9] (dn, List.replicate nn [.int .u64 0, .int .u64 0], vl, ls, e0) ?_ (.cons rfl (.cons rfl (.cons rfl (.cons rfl (.cons rfl .nil))))) ?_ ?_
 ·exact ⟨H2, Nat.le_refl _, by simp, Z1j.rep rfl (by simp [Value.oneCell']) _, hcn, ZO, ZO, fun j h1 h2 => by omega⟩
 ·exact (.cons rfl ZN .nil)
 rintro ⟨k, rs, vl, ls, e⟩ w3 ⟨H3, hk, hrl, hRs, hcn, he, hek, hrow⟩
 show RunC P _ _ _ (_ :: _) _
 refine Z03 (Z03 (Z00 (Zm ?_)))
 refine Zh ?_
 refine Z02 (Z01 ?_)
 (first | refine Z08 rfl ?_ ?_ | refine Z05 rfl ?_ ?_) <;> intro hc1
 ·refine Z09 (Z01 (Z03 (Z0c (Z00 (Zm (Zm (Zm ?_)))))))
  refine l_callv rfl rfl rfl func181 rfl rfl .nil (nextP b vl ls e ZO hcn w3 (St.rows (τ := [As.blk b 47 [vl], As.ri 30 .u64 vl ls]) (σ := _) H3)) ?_
  rintro _ w4 ⟨rfl, vm, lm, hm, hX⟩
  have H4 := hX _ _ _ _ H3
  simp only [Zca, Zna] at H4
  refine Zc func166 (belowP vl ls (5 ^ e) hcn (Z57 e) (by have := Z2C e ZO; omega) ((bl_fit ⟨e, ZO⟩).resolve_left (by show ¬ e = 0; omega)) w4 (H4.io mem2)) ?_
  rintro _ w5 ⟨rfl, hG⟩
  have H5 := hG _ _ _ _ H4
  simp only [Zca, Zna] at H5
  refine Zm ?_
  refine Zx (Zx ?_)
  refine Z4k (j := k - 1) rfl rfl underlying206 Z1I (by decide) rfl rfl (by first | exact H5.ibl mem0 | exact H5.io mem1 | exact H5.io mem2 | exact H5.ik ZA mem3 | assumption) ZP ZI (fun ad10_8 ac10_8 hA10_8 => ?_)
  have hne : Z1j 2 rs := hRs
  refine k_store (j := k - 1) H5 (.tail (.tail (.tail .head))) ZA (by decide) hA10_8 rfl Z1I rfl rfl rfl ZI ZC (fun w6 H6 => ?_)
  refine Z02 ?_
  refine Z0z ?_
  refine Z01 ?_
  refine Zk [4, 5, 7, 8, 9, 10] ?_
  refine Z00 (Zm ?_)
  refine Z0F rfl rfl rfl rfl (Z0h ZO) ?_
  refine Zg (Z02 ?_)
  have H7 := St.del (.tail (.tail .head)) H6
  refine Z0j (i := (k, rs, vl, ls, e)) (k - 1, rs.set (k - 1) (wrow (blM (5 ^ e))), vm, lm, e + 1) ?_ ?_ (.cons rfl (.cons rfl (.cons rfl (.cons rfl (.cons rfl .nil))))) ?_
  ·first | omega | (simp; omega)
  ·refine ⟨H7, ZO, by simpa using hrl, hRs.set rfl (by simp [Value.oneCell']) _, hm, ZO, ZO, fun j h1 h2 => ?_⟩
   rw [Z4Q ZO]
   split
   ·rename_i h3
    rw [entS_neg e ZO ZO]
   exact hrow j ZO h2
  exact (.cons rfl ZN .nil)
 refine Z0y ?_
 refine Z04 ?_
 refine Z04 ?_
 refine Z0d ?_
 refine Z01 (Z03 (Z00 (Zm ?_)))
 have H9 := St.del .head (St.del .head H3)
 refine Z2U rfl rfl rfl rfl ?_
 obtain ⟨e1, he1⟩ : ∃ e1 : Nat, max q 0 = (e1 : Int) := ⟨(max q 0).toNat, ZO⟩
 refine Z0q (s := 51) (v' := .int .i64 (e1 : Int)) rfl (by rw [he1]) ?_
 refine Zc func165 (powersP e1 ZO w3) ?_
 rintro _ w10 ⟨b, vl, ls, rfl, hcn, hG⟩
 have H10 := hG _ _ _ _ H9
 simp only [Zca, Zna] at H10
 refine Zg (Z02 (Z01 (Z03 (Z03 (Z00 (Zm (Zg (Z02 (Z01 ?_)))))))))
 refine Zk [5, 7, 9, 11] ?_
 refine Z0c ?_
 refine Z0v (ι := Nat × List (List Value) × Value × List Int × Nat) (fun (z0 : Nat × List (List Value) × Value × List Int × Nat) => match z0 with | ⟨k, rs, vl, ls, e⟩ => nn - k) (fun (z0 : Nat × List (List Value) × Value × List Int × Nat) (w' : World) => match z0 with | ⟨k, rs, vl, ls, e⟩ => St w w.heap.size Z0B ([As.blk b 47 [vl], As.ri 30 .u64 vl ls, As.rk 124 2 v4_1 rs]) w' ∧ dn ≤ k ∧ k ≤ nn ∧ rs.length = nn ∧ Z1j 2 rs ∧ Ma.Cn 18446744073709551616 ls (5 ^ e) ∧ e ≤ 330 ∧ (k < nn → (e : Int) = q + k) ∧ ∀ j : Nat, j < k → rs[j]? = some (wrow (entS (q + j)).1)) (fun (z0 : Nat × List (List Value) × Value × List Int × Nat) => match z0 with | ⟨k, rs, vl, ls, e⟩ => [(11, .int .i64 (k : Int))]) [5, 7, 9] (dn, rs, vl, ls, e1) ?_ (.cons rfl (.cons rfl (.cons rfl .nil))) ?_ ?_
 ·exact ⟨H10, Nat.le_refl _, ZO, hrl, hRs, hcn, ZO, ZO, fun j h1 => hrow j ZO h1⟩
 ·exact (.cons rfl ZN .nil)
 rintro ⟨k, rs, vl, ls, e⟩ w11 ⟨H11, hdk, hk, hrl, hRs, hcn, he, hek, hrow⟩
 show RunC P _ _ _ (_ :: _) _
 refine Z03 (Z03 (Z00 (Zm (Zm ?_))))
 refine Zl ?_
 refine Z02 (Z01 ?_)
 (first | refine Z08 rfl ?_ ?_ | refine Z05 rfl ?_ ?_) <;> intro hc2
 ·refine Z09 (Z01 (Z03 (Z0c (Z00 (Zm (Zm (Zm ?_)))))))
  refine l_callv rfl rfl rfl func181 rfl rfl .nil (nextP b vl ls e ZO hcn w11 (St.rows (τ := [As.blk b 47 [vl], As.ri 30 .u64 vl ls]) (σ := _) H11)) ?_
  rintro _ w12 ⟨rfl, vm, lm, hm, hX⟩
  have H12 := hX _ _ _ _ H11
  simp only [Zca, Zna] at H12
  refine Zc func167 (aboveP vl ls (5 ^ e) hcn (Z57 e) (by have := Z2C e ZO; omega) w12 (H12.io mem2)) ?_
  rintro _ w13 ⟨rfl, hG⟩
  have H13 := hG _ _ _ _ H12
  simp only [Zca, Zna] at H13
  refine Zm ?_
  refine Zx (Zx ?_)
  refine Z4k (j := k) rfl rfl underlying206 Z1I (by decide) rfl rfl (by first | exact H13.ibl mem0 | exact H13.io mem1 | exact H13.io mem2 | exact H13.ik ZA mem3 | assumption) ZP ZI (fun ad15_8 ac15_8 hA15_8 => ?_)
  have hne : Z1j 2 rs := hRs
  refine k_store (j := k) H13 (.tail (.tail (.tail .head))) ZA (by decide) hA15_8 rfl Z1I rfl rfl rfl ZI ZC (fun w14 H14 => ?_)
  refine Z02 ?_
  refine Z0z ?_
  refine Z01 ?_
  refine Zk [5, 7, 9, 11] ?_
  refine Z00 (Zm ?_)
  refine Z0t rfl rfl rfl rfl (Z0h ZO) ?_
  refine Zg (Z02 ?_)
  have H15 := St.del (.tail (.tail .head)) H14
  refine Z0j (i := (k, rs, vl, ls, e)) (k + 1, rs.set k (wrow (abM (5 ^ e))), vm, lm, e + 1) ?_ ?_ (.cons rfl (.cons rfl (.cons rfl .nil))) ?_
  ·first | omega | (simp; omega)
  ·refine ⟨H15, ZO, ZO, by simpa using hrl, hRs.set rfl (by simp [Value.oneCell']) _, hm, ZO, ZO, fun j h1 => ?_⟩
   rw [Z4Q ZO]
   split
   ·rename_i h3
    rw [entS_pos e ZO ZO]
   exact hrow j ZO
  exact (.cons rfl ZN .nil)
 refine Z0y ?_
 refine Z04 ?_
 refine Z04 ?_
 refine Z0d ?_
 refine Z01 (Z03 (Z00 (Zm (Zg (Zg (Z02 (Z01 ?_)))))))
 refine Z0f ?_
 refine Z0x results129 rfl rfl ?_
 refine ⟨_, rfl, ?_⟩
 have H18 := St.del (.tail .head) (St.del (.tail (.tail .head)) (St.front2 H11))
 obtain rfl : k = nn := by omega
 have es : rs = segR s := segR_eq (by rw [hnd]; omega) (fun j hj => by rw [hqd]; exact hrow j ZO)
 rw [← es, show (Z0E s).2.2 = 0 from by rw [hfe]]
 exact ⟨_, rfl, H18.grows⟩
end Go.Proofs.YtjcbdogohjafdaaGreat.W
