/- walks of the reference's Over, DivMod -/
import Derived.Test.YtgfkagaacdblbaaGreatFm
set_option linter.unusedVariables false
set_option linter.unusedSimpArgs false
set_option maxRecDepth 10000
namespace Go.Proofs.YtgfkagaacdblbaaGreat.W
open Go.Vc Go.RowKit Tryz
theorem Z4M : R16 [1] 1 := ⟨fun x hx => by rw [List.mem_singleton.1 hx]; omega, ⟨fun _ => by omega, trivial⟩, by decide⟩
theorem Z4N : ∀ {l : List Int}, D16 l → ∀ j, l.getD j 0 = rv l / 65536 ^ j % 65536
 | [], _, j => by simp [Ma.vb]
 | x :: l, h, 0 => by
  have hx := h x (.head _)
  show x = (x + 65536 * rv l) / 65536 ^ 0 % 65536
  rw [Int.pow_zero, Int.ediv_one]
  omega
 | x :: l, h, j + 1 => by
  have hx := h x (.head _)
  have ih := Z4N (l := l) (fun y hy => h y (.tail _ hy)) j
  have e : rv (x :: l) / 65536 = rv l := by
   show (x + 65536 * rv l) / 65536 = rv l
   omega
  rw [List.getD_cons_succ, ih, Int.pow_succ, Int.mul_comm, ← Int.ediv_ediv_of_nonneg (show (0 : Int) ≤ 65536 by omega), e]
theorem bit_of {y p c : Int} (hp : 0 < p) (hc : 0 < c) : y % (p * (2 * c)) / p % 2 = y / p % 2 := by
 have e := Int.emod_add_mul_ediv y (p * (2 * c))
 have h1 : y / p = y % (p * (2 * c)) / p + 2 * c * (y / (p * (2 * c))) := by
  have e5 : p * (2 * c * (y / (p * (2 * c)))) = p * (2 * c) * (y / (p * (2 * c))) := (Int.mul_assoc ..).symm
  have : y = y % (p * (2 * c)) + p * (2 * c * (y / (p * (2 * c)))) := by rw [e5]; omega
  conv => lhs; rw [this]
  rw [Int.add_mul_ediv_left _ _ ZO]
 rw [h1, Int.mul_assoc]
 omega
theorem b16 {e : Nat} (he : e ≤ 15) : (65536 : Int) = 2 ^ e * (2 * 2 ^ (15 - e)) := by
 have h : (2 : Int) * 2 ^ (15 - e) = 2 ^ (16 - e) := by
  have h2 : (2 : Int) ^ (15 - e + 1) = 2 ^ (15 - e) * 2 := Int.pow_succ ..
  rw [show 16 - e = 15 - e + 1 from by omega, h2, Int.mul_comm]
 rw [h, ← Int.pow_add, show e + (16 - e) = 16 from by omega]
 rfl
theorem Z4O (i : Nat) : (65536 : Int) ^ (i / 16) * 2 ^ (i % 16) = 2 ^ i := by
 rw [p16, ← Int.pow_add, show 16 * (i / 16) + i % 16 = i from by omega]
theorem bit_at {l : List Int} (h : D16 l) (i : Nat) : l.getD (i / 16) 0 / 2 ^ (i % 16) % 2 = rv l / 2 ^ i % 2 := by
 have hp := Ma.pow_pos (show (0 : Int) < 2 by omega) (i % 16)
 have hc := Ma.pow_pos (show (0 : Int) < 2 by omega) (15 - i % 16)
 have hb := b16 (e := i % 16) ZO
 rw [Z4N h]
 have h1 := bit_of (y := rv l / 65536 ^ (i / 16)) hp hc
 rw [← hb] at h1
 rw [h1, Int.ediv_ediv_of_nonneg (Int.le_of_lt (Ma.pow_pos ZO _)), Z4O]
theorem room_at {l : List Int} (h : D16 l) {Q : Int} {i : Nat} (hv : rv l = Q * (2 * 2 ^ i)) : l.getD (i / 16) 0 + 2 ^ (i % 16) ≤ 65535 := by
 have hp := Ma.pow_pos (show (0 : Int) < 2 by omega) (i % 16)
 have hc := Ma.pow_pos (show (0 : Int) < 2 by omega) (15 - i % 16)
 have hb := b16 (e := i % 16) ZO
 have hB := Ma.pow_pos (show (0 : Int) < 65536 by omega) (i / 16)
 have e1 : rv l / 65536 ^ (i / 16) = 2 ^ (i % 16) * 2 * Q := by
  have : rv l = 65536 ^ (i / 16) * (2 ^ (i % 16) * 2 * Q) := by
   rw [hv, ← Z4O i, Int.mul_comm Q, Int.mul_comm 2, Int.mul_assoc, Int.mul_assoc, Int.mul_assoc]
  rw [this, Int.mul_ediv_cancel_left _ ZO]
 have e2 : (65536 : Int) = 2 ^ (i % 16) * 2 * 2 ^ (15 - i % 16) := by rw [Int.mul_assoc]; exact hb
 have e3 : 2 ^ (i % 16) * 2 * Q % 65536 = 2 ^ (i % 16) * 2 * (Q % 2 ^ (15 - i % 16)) := by
  rw [e2, Int.mul_emod_mul_of_pos _ _ ZO]
 rw [Z4N h, e1, e3]
 have h1 := Int.emod_lt_of_pos Q hc
 have h2 : 2 ^ (i % 16) * 2 * (Q % 2 ^ (15 - i % 16) + 1) ≤ 2 ^ (i % 16) * 2 * 2 ^ (15 - i % 16) := Int.mul_le_mul_of_nonneg_left ZO ZO
 rw [← e2, Int.mul_add, Int.mul_one] at h2
 omega
theorem overR (a b : Value) (la lb : List Int) (na nb : Int) (hRa : R16 la na) (hRb : R16 lb nb) (hLa : la.length ≤ 1048576) (hLb : lb.length ≤ 1048576) (hb0 : 0 < nb) (w : World) (ha : IV w a (ints .i64 la)) (hb : IV w b (ints .i64 lb)) :
  Z0f P 74 [a, b] w fun r w' => ∃ vq vr lq lr, r = .tuple #[vq, vr] ∧ R16 lq (na / nb) ∧ R16 lr (na % nb) ∧ Grow w w' [As.ri 3 .i64 vq lq, As.ri 3 .i64 vr lr] := by
 refine Z0o func74 rfl ntmps74 rfl ?_
 have H0 := St.start w
 have hDa := hRa.d
 have hna := hRa.nonneg ZO
 have hbl := hRa.blen
 have hbl0 := Ma.blen_nonneg na
 have hblb := hRb.blen
 refine Z03 (Z00 (Zg (Zg (Z01 (Z02 ?_)))))
 refine Zk [0, 1] ?_
 refine Z03 (Z00 (Zm ?_))
 refine Z0u rfl rfl underlying34 rfl (by first | exact H0.iarg ha | exact H0.iarg hb | assumption) ?_
 refine Z1A (m := la.length) (c := la.length) H0 rfl rfl underlying34 ti3 rfl rfl rfl ZO ZO ZO ZO ZO (fun v1_2 w1 H1 => ?_)
 refine Zg (Z01 (Z02 ?_))
 refine Zk [0, 1, 6] ?_
 refine Z03 (Z00 (Zg (Z01 (Z02 (Z03 (Z03 (Z00 (Zm ?_))))))))
 refine Z13 rfl rfl func70 rfl rfl (.cons rfl .nil) (bitsR _ la na hRa ZO w1 (H1.iarg ha)) ?_
 refine Z0W rfl rfl rfl rfl (Z0l ZO) ?_
 refine Zg (Z01 (Z02 ?_))
 refine Zk [0, 1, 6, 7, 8] ?_
 refine Z0d ?_
 refine Z0z (ι := Nat × List Int × Int × List Int × Value × Int) (fun (z0 : Nat × List Int × Int × List Int × Value × Int) => match z0 with | ⟨k, o, m, lr, vr, Q⟩ => k) (fun (z0 : Nat × List Int × Int × List Int × Value × Int) (w' : World) => match z0 with | ⟨k, o, m, lr, vr, Q⟩ => St w w.heap.size Z0J ([As.ri 3 .i64 vr lr, As.ri 3 .i64 v1_2 o]) w' ∧ k ≤ 16 * la.length ∧ o.length = la.length ∧ D16 o ∧ R16 lr m ∧ 0 ≤ m ∧ m < nb ∧ rv o = Q * 2 ^ k ∧ na / 2 ^ k = Q * nb + m) (fun (z0 : Nat × List Int × Int × List Int × Value × Int) => match z0 with | ⟨k, o, m, lr, vr, Q⟩ => [(7, vr), (8, .int .i64 ((k : Int) - 1))]) [0, 1, 6] ((Ma.blen na).toNat, List.replicate la.length 0, 0, [], .slice none 0 0, 0) ?_ (.cons rfl (.cons rfl (.cons rfl .nil))) ?_ ?_
 ·have hz : na / 2 ^ (Ma.blen na).toNat = 0 := Int.ediv_eq_zero_of_lt hna ((Ma.blen_le_iff hna _).1 ZO)
  exact ⟨(H1.cast (by rw [Z14])).nil 3, ZO, by simp, fun y hy => by rw [List.eq_of_mem_replicate hy]; omega, Ma.Cn.nil, ZO, hb0, by rw [Int.zero_mul]; exact Ma.vb_zeros _ _, by rw [hz, Int.zero_mul]; rfl⟩
 ·exact (.cons rfl ZN (.cons rfl ZN .nil))
 rintro ⟨k, o, m, lr, vr, Q⟩ w2 ⟨H2, hk, hol, hDo, hRm, hm0, hm1, hoQ, hnQ⟩
 show RunC P _ _ _ (_ :: _) _
 refine Z03 (Z03 (Z00 (Zm ?_)))
 refine Zh ?_
 refine Z01 (Z02 ?_)
 refine Zk [0, 1, 6, 7, 8, 16] ?_
 (first | refine Z0c rfl ?_ ?_ | refine Z08 rfl ?_ ?_) <;> intro hc0
 ·refine Z0a (Z02 ?_)
  refine Zk [0, 1, 6, 7, 8] ?_
  refine Z03 (Z0d (Z03 (Z00 ?_)))
  have hlm := hRm.len_mono hRb ZO
  refine Zm (Zm ?_)
  refine Z0I rfl rfl func75 rfl rfl (.cons rfl (.cons rfl .nil)) (sumR _ _ lr lr m m hRm hRm ZO ZO w2 (H2.io mem0) (H2.io mem0)) ?_
  rintro v2 w3 ⟨_, l2, rfl, hR2, hG⟩
  have H3 := hG _ _ _ _ H2
  simp only [Zca, Zna] at H3
  have hl2 := hR2.len (k := (Ma.blen nb + 1).toNat) (by have := blen_add (x := m) (y := m) (m := (Ma.blen nb).toNat) ZO ZO (by have := Ma.blen_mono (a := m) (b := nb) ZO ZO; have := Ma.blen_nonneg nb; omega) (by have := Ma.blen_mono (a := m) (b := nb) ZO ZO; have := Ma.blen_nonneg nb; omega); have := Ma.blen_nonneg nb; omega)
  have hbn := Ma.blen_nonneg nb
  have hp2 := Ma.pow_pos (show (0 : Int) < 2 by omega) ((k - 1) % 16)
  have hp15 : (2 : Int) ^ ((k - 1) % 16) ≤ 32768 := by
   have := Ma.pow_mono (show (1 : Int) ≤ 2 by omega) (show (k - 1) % 16 ≤ 15 by omega)
   have e15 : (2 : Int) ^ 15 = 32768 := by decide
   omega
  have hpi := Ma.pow_pos (show (0 : Int) < 2 by omega) (k - 1)
  have ek : (2 : Int) ^ k = 2 * 2 ^ (k - 1) := by rw [Z3X 2 (show 0 < k by omega), Int.mul_comm]
  have hki : (k - 1) / 16 < la.length := by omega
  have H4 := St.del (.tail .head) H3
  refine Zg (Z01 (Z02 ?_))
  refine Zk [0, 1, 6, 7, 8] ?_
  refine Z1q (ι := List Int × Value × Int) (fun (z0 : List Int × Value × Int) (w' : World) => match z0 with | ⟨l4, v4, m4⟩ => St w w.heap.size Z0J ([As.ri 3 .i64 v4 l4, As.ri 3 .i64 v1_2 o]) w' ∧ R16 l4 m4 ∧ m4 = 2 * m + na / 2 ^ (k - 1) % 2) (fun (z0 : List Int × Value × Int) => match z0 with | ⟨l4, v4, m4⟩ => [(7, v4)]) [0, 1, 6, 8] (.cons rfl (.cons rfl (.cons rfl (.cons rfl .nil)))) ?_ ?_
  ·refine Z03 ?_
   refine Z2F ZK ZK ?_
   have H5 := H4.drewn
   refine Zm (Zm ?_)
   refine Z2D rfl rfl rfl rfl ZO (Z35 ZO) ?_
   refine Z0T (j := (k - 1) / 16) rfl rfl rfl rfl underlying34 tz3 underlying3 rfl rfl (by first | exact H5.io mem0 | exact H5.io mem1 | exact H5.iarg ha | exact H5.iarg hb | assumption) ZA rfl ZO ZI (fun hb7_3 => ?_)
   refine Zm ?_
   refine Z2e rfl rfl rfl rfl ZO (Z2E ZO) ?_
   refine Z0j (s := 28) (v' := .int .i64 (((k - 1) % 16 : Nat) : Int)) rfl (by refine congrArg (Value.int _) ?_; omega) ?_
   refine Zp func83 (twoR ((k - 1) % 16) ZO _) ?_
   have hga := Z1N hDa ((k - 1) / 16)
   refine Z2D rfl rfl rfl rfl ZO (Z35 ZO) ?_
   have hgq : 0 ≤ la.getD ((k - 1) / 16) 0 / 2 ^ ((k - 1) % 16) := Int.ediv_nonneg hga.1 ZO
   refine Z2e rfl rfl rfl rfl ZO (Z2E ZO) ?_
   have hbit := bit_at hDa (k - 1)
   rw [show rv la = na from hRa.val] at hbit
   refine Ze ?_
   refine Z01 (Z02 ?_)
   refine Zk [0, 1, 6, 7, 8, 32] ?_
   (first | refine Z0c rfl ?_ ?_ | refine Z08 rfl ?_ ?_) <;> intro hc1
   ·refine Z00 (Zm ?_)
    refine Z2g H5 rfl rfl underlying34 ti3 rfl (.cons rfl ZR .nil) rfl rfl rfl (fun b8_1 w6 H6 => ?_)
    refine Z0I rfl rfl func75 rfl rfl (.cons rfl (.cons rfl .nil)) (sumR _ _ l2 [1] _ 1 hR2 Z4M ZO (by simp) w6 (H6.io mem1) (H6.ibl mem0)) ?_
    rintro v3 w7 ⟨_, l3, rfl, hR3, hG⟩
    have H7 := hG _ _ _ _ H6
    simp only [Zca, Zna] at H7
    have H9 := St.del (.tail .head) (St.del (.tail .head) H7)
    refine Zg (Z01 ?_)
    refine Z0w (l3, v3, m + m + 1) ?_ (.cons rfl (.cons rfl (.cons rfl (.cons rfl .nil)))) ?_
    ·exact ⟨H9, hR3, ZO⟩
    exact (.cons rfl ZN .nil)
   refine Z0a ?_
   refine Z0w (l2, v2, m + m) ?_ (.cons rfl (.cons rfl (.cons rfl (.cons rfl .nil)))) ?_
   ·exact ⟨H5, hR2, ZO⟩
   exact (.cons rfl ZN .nil)
  rintro ⟨l4, v4, m4⟩ w10 ⟨H10, hR4, hm4⟩
  show RunC P _ _ _ (_ :: _) _
  refine Z03 (Z00 ?_)
  have hbt2 : 0 ≤ na / 2 ^ (k - 1) % 2 ∧ na / 2 ^ (k - 1) % 2 ≤ 1 := by omega
  have hlt2 : m4 < 2 * nb := by omega
  have hl4 := hR4.len (k := (Ma.blen nb + 1).toNat) (by have h9 := (Ma.blen_le_iff (n := m4) ZO ((Ma.blen nb).toNat + 1)).2 (by rw [Int.pow_succ]; have := (Ma.blen_le_iff (n := nb) ZO (Ma.blen nb).toNat).1 ZO; omega); omega)
  have hov := over_step hpi (vq := rv o) (nA := na) (nb := nb) (vr := m) (Q := Q) (by rw [hoQ, ek]) (by rw [← ek]; exact hnQ) ⟨hm0, hm1⟩
  refine Zm (Zm ?_)
  refine Z0I rfl rfl func85 rfl rfl (.cons rfl (.cons rfl .nil)) (cmpR _ _ l4 lb m4 nb hR4 hRb ZO ZO w10 (H10.io mem0) (H10.iarg hb)) ?_
  rintro _ w11 ⟨rfl, hG⟩
  have H11 := hG _ _ _ _ H10
  simp only [Zca, Zna] at H11
  refine Zh ?_
  refine Z01 (Z02 ?_)
  refine Zk [0, 1, 6, 7, 8, 39] ?_
  (first | refine Z0c rfl ?_ ?_ | refine Z08 rfl ?_ ?_) <;> intro hc2
  ·refine Z03 (Z00 ?_)
   have hge : nb ≤ m4 := by
    rcases Int.lt_or_le m4 nb with h | h
    ·exact absurd (Z3V.2 h) ZO
    exact h
   have hov1 := hov.1 ZO
   have hroom := room_at hDo (Q := Q) (i := k - 1) (by rw [hoQ, ek])
   have hgo := Z1N hDo ((k - 1) / 16)
   refine Zm (Zm ?_)
   refine Z0I rfl rfl func86 rfl rfl (.cons rfl (.cons rfl .nil)) (lessR _ _ l4 lb m4 nb hR4 hRb ZO ZO hge w11 (H11.io mem0) (H11.iarg hb)) ?_
   rintro v5 w12 ⟨_, l5, rfl, hR5, hG⟩
   have H12 := hG _ _ _ _ H11
   simp only [Zca, Zna] at H12
   have H13 := St.del (.tail .head) H12
   refine Zg (Z01 (Z02 ?_))
   refine Zk [0, 1, 6, 7, 8] ?_
   have H14 := H13.drewn
   obtain ⟨A11, c11, hv11⟩ := (H14.io mem1).lies (by simp; omega)
   refine Z1a (n := 14) [Zz,Zz,Zz,Zz,Zz,Zz,Zz,Zz,Zz,Zz,Zz,Zz,Zz,Zz] (fun wS => True) ZK rfl rfl ?_
   apply Zu (L' := [Zy,Zz,Zz,Zz,Zz,Zz,Zz,Zz,Zz,Zz,Zz,Zz,Zz,Zz]) 0 (trivial)
   ·intro wS sS
    refine Zm (Z01 ?_)
    exact Z04 rfl
   apply Zu (L' := [Zy,Zy,Zz,Zz,Zz,Zz,Zz,Zz,Zz,Zz,Zz,Zz,Zz,Zz]) 1 (trivial)
   ·intro wS sS
    refine Zm (Z01 ?_)
    exact Z04 rfl
   apply Zu (L' := [Zy,Zy,Zy,Zz,Zz,Zz,Zz,Zz,Zz,Zz,Zz,Zz,Zz,Zz]) 2 (trivial)
   ·intro wS sS
    refine Z2D rfl rfl rfl rfl ZO (Z35 ZO) ?_
    refine Z01 ?_
    exact Z04 rfl
   apply Zu (L' := [Zy,Zy,Zy,Zy,Zz,Zz,Zz,Zz,Zz,Zz,Zz,Zz,Zz,Zz]) 3 (trivial)
   ·intro wS sS
    refine Zm (Z01 ?_)
    exact Z04 rfl
   apply Zu (L' := [Zy,Zy,Zy,Zy,Zy,Zz,Zz,Zz,Zz,Zz,Zz,Zz,Zz,Zz]) 4 (trivial)
   ·intro wS sS
    refine Zm (Z01 ?_)
    exact Z04 rfl
   apply Zu (L' := [Zy,Zy,Zy,Zy,Zy,Zy,Zz,Zz,Zz,Zz,Zz,Zz,Zz,Zz]) 5 (trivial)
   ·intro wS sS
    refine Z2D rfl rfl rfl rfl ZO (Z35 ZO) ?_
    refine Z01 ?_
    exact Z04 rfl
   apply Zu (L' := [Zy,Zy,Zy,Zy,Zy,Zy,Zy,Zz,Zz,Zz,Zz,Zz,Zz,Zz]) 6 (trivial)
   ·intro wS sS
    refine Z1c (j := (k - 1) / 16) rfl rfl underlying34 tz3 rfl rfl hv11 ZP ZI ?_
    refine Z01 ?_
    exact Z04 rfl
   apply Zu (L' := [Zy,Zy,Zy,Zy,Zy,Zy,Zy,Zz,Zy,Zz,Zz,Zz,Zz,Zz]) 8 (trivial)
   ·intro wS sS
    refine Zm (Z01 ?_)
    exact Z04 rfl
   apply Zu (L' := [Zy,Zy,Zy,Zy,Zy,Zy,Zy,Zz,Zy,Zy,Zz,Zz,Zz,Zz]) 9 (trivial)
   ·intro wS sS
    refine Z2e rfl rfl rfl rfl ZO (Z2E ZO) ?_
    refine Z01 ?_
    exact Z04 rfl
   refine Z2B (L' := [Zy,Zy,Zy,Zy,Zy,Zy,Zy,Zy,Zy,Zy,Zz,Zz,Zz,Zz]) (L'' := [Zy,Zy,Zy,Zy,Zy,Zy,Zy,Zz,Zy,Zy,Zy,Zz,Zz,Zz]) 7 10 ZK rfl rfl rfl rfl ?_ ?_
   ·refine Z1u rfl rfl underlying3 rfl hv11 (by first | exact H14.io mem0 | exact H14.io mem1 | exact H14.iarg ha | exact H14.iarg hb | assumption) ZA ZI (fun hb11_7 => ?_)
    refine Z01 ?_
    refine Z0n (trivial) ?_
    refine Z0v (L' := [Zy,Zy,Zy,Zy,Zy,Zy,Zy,Zy,Zy,Zy,Zy,Zz,Zz,Zz]) 10 ZK rfl rfl ?_
    refine Z0j (s := 52) (v' := .int .i64 (((k - 1) % 16 : Nat) : Int)) rfl (by refine congrArg (Value.int _) ?_; omega) ?_
    refine Zp func83 (twoR ((k - 1) % 16) ZO _) ?_
    refine Z01 ?_
    refine Z0n (trivial) ?_
    apply Zu (L' := [Zy,Zy,Zy,Zy,Zy,Zy,Zy,Zy,Zy,Zy,Zy,Zy,Zz,Zz]) 11 (trivial)
    ·intro wS sS
     refine Z0y rfl rfl rfl rfl (Z0l ZO) ?_
     refine Z01 ?_
     exact Z04 rfl
    apply Zu (L' := [Zy,Zy,Zy,Zy,Zy,Zy,Zy,Zy,Zy,Zy,Zy,Zy,Zy,Zz]) 12 (trivial)
    ·intro wS sS
     refine Z1c (j := (k - 1) / 16) rfl rfl underlying34 tz3 rfl rfl hv11 ZP ZI ?_
     refine Z01 ?_
     exact Z04 rfl
    refine Z0v (L' := [Zy,Zy,Zy,Zy,Zy,Zy,Zy,Zy,Zy,Zy,Zy,Zy,Zy,Zy]) 13 ZK rfl rfl ?_
    refine Z1w H14 (.tail .head) hv11 rfl tz3 rfl rfl ZI (fun w15 H15 => ?_)
    refine Z01 ?_
    refine Z0n (trivial) ?_
    refine Z0B ZK ?_
    refine Z0F ?_
    refine Z02 ?_
    refine Zk [0, 1, 6, 7, 8] ?_
    refine Z00 (Zm ?_)
    refine Z0W rfl rfl rfl rfl (Z0l ZO) ?_
    refine Zg (Z01 ?_)
    refine Z0p (i := (k, o, m, lr, vr, Q)) (k - 1, o.set ((k - 1) / 16) (o.getD ((k - 1) / 16) 0 + 2 ^ ((k - 1) % 16)), m4 - nb, l5, v5, 2 * Q + 1) ?_ ?_ (.cons rfl (.cons rfl (.cons rfl .nil))) ?_
    ·first | omega | (simp; omega)
    ·have h1 := Ma.vb_set_at 65536 o ((k - 1) / 16) (o.getD ((k - 1) / 16) 0 + 2 ^ ((k - 1) % 16)) ZO
     have e1 : rv (o.set ((k - 1) / 16) (o.getD ((k - 1) / 16) 0 + 2 ^ ((k - 1) % 16))) = (2 * Q + 1) * 2 ^ (k - 1) := by
      rw [← hov1.1, show rv (o.set ((k - 1) / 16) (o.getD ((k - 1) / 16) 0 + 2 ^ ((k - 1) % 16))) = _ from h1, show o.getD ((k - 1) / 16) 0 + 2 ^ ((k - 1) % 16) - o.getD ((k - 1) / 16) 0 = 2 ^ ((k - 1) % 16) from by omega, Z4O]
     refine ⟨H15, ZO, by simpa using hol, fun y hy => (List.mem_or_eq_of_mem_set hy).elim (hDo y) (fun e => by rw [e]; omega), hR5, ZO, ZO, e1, by rw [hov1.2.1]; omega⟩
    exact (.cons rfl ZN (.cons rfl ZN .nil))
   refine Z0j (s := 52) (v' := .int .i64 (((k - 1) % 16 : Nat) : Int)) rfl (by refine congrArg (Value.int _) ?_; omega) ?_
   refine Zp func83 (twoR ((k - 1) % 16) ZO _) ?_
   refine Z01 ?_
   refine Z0n (trivial) ?_
   refine Z0v (L' := [Zy,Zy,Zy,Zy,Zy,Zy,Zy,Zy,Zy,Zy,Zy,Zz,Zz,Zz]) 7 ZK rfl rfl ?_
   refine Z1u rfl rfl underlying3 rfl hv11 (by first | exact H14.io mem0 | exact H14.io mem1 | exact H14.iarg ha | exact H14.iarg hb | assumption) ZA ZI (fun hb11_7 => ?_)
   refine Z01 ?_
   refine Z0n (trivial) ?_
   apply Zu (L' := [Zy,Zy,Zy,Zy,Zy,Zy,Zy,Zy,Zy,Zy,Zy,Zy,Zz,Zz]) 11 (trivial)
   ·intro wS sS
    refine Z0y rfl rfl rfl rfl (Z0l ZO) ?_
    refine Z01 ?_
    exact Z04 rfl
   apply Zu (L' := [Zy,Zy,Zy,Zy,Zy,Zy,Zy,Zy,Zy,Zy,Zy,Zy,Zy,Zz]) 12 (trivial)
   ·intro wS sS
    refine Z1c (j := (k - 1) / 16) rfl rfl underlying34 tz3 rfl rfl hv11 ZP ZI ?_
    refine Z01 ?_
    exact Z04 rfl
   refine Z0v (L' := [Zy,Zy,Zy,Zy,Zy,Zy,Zy,Zy,Zy,Zy,Zy,Zy,Zy,Zy]) 13 ZK rfl rfl ?_
   refine Z1w H14 (.tail .head) hv11 rfl tz3 rfl rfl ZI (fun w16 H16 => ?_)
   refine Z01 ?_
   refine Z0n (trivial) ?_
   refine Z0B ZK ?_
   refine Z0F ?_
   refine Z02 ?_
   refine Zk [0, 1, 6, 7, 8] ?_
   refine Z00 (Zm ?_)
   refine Z0W rfl rfl rfl rfl (Z0l ZO) ?_
   refine Zg (Z01 ?_)
   refine Z0p (i := (k, o, m, lr, vr, Q)) (k - 1, o.set ((k - 1) / 16) (o.getD ((k - 1) / 16) 0 + 2 ^ ((k - 1) % 16)), m4 - nb, l5, v5, 2 * Q + 1) ?_ ?_ (.cons rfl (.cons rfl (.cons rfl .nil))) ?_
   ·first | omega | (simp; omega)
   ·have h1 := Ma.vb_set_at 65536 o ((k - 1) / 16) (o.getD ((k - 1) / 16) 0 + 2 ^ ((k - 1) % 16)) ZO
    have e1 : rv (o.set ((k - 1) / 16) (o.getD ((k - 1) / 16) 0 + 2 ^ ((k - 1) % 16))) = (2 * Q + 1) * 2 ^ (k - 1) := by
     rw [← hov1.1, show rv (o.set ((k - 1) / 16) (o.getD ((k - 1) / 16) 0 + 2 ^ ((k - 1) % 16))) = _ from h1, show o.getD ((k - 1) / 16) 0 + 2 ^ ((k - 1) % 16) - o.getD ((k - 1) / 16) 0 = 2 ^ ((k - 1) % 16) from by omega, Z4O]
    refine ⟨H16, ZO, by simpa using hol, fun y hy => (List.mem_or_eq_of_mem_set hy).elim (hDo y) (fun e => by rw [e]; omega), hR5, ZO, ZO, e1, by rw [hov1.2.1]; omega⟩
   exact (.cons rfl ZN (.cons rfl ZN .nil))
  refine Z0a ?_
  refine Z0F ?_
  refine Z02 ?_
  refine Zk [0, 1, 6, 7, 8] ?_
  refine Z00 (Zm ?_)
  refine Z0W rfl rfl rfl rfl (Z0l ZO) ?_
  refine Zg (Z01 ?_)
  refine Z0p (i := (k, o, m, lr, vr, Q)) (k - 1, o, m4, l4, v4, 2 * Q) ?_ ?_ (.cons rfl (.cons rfl (.cons rfl .nil))) ?_
  ·first | omega | (simp; omega)
  ·have hlt3 : m4 < nb := by
    rcases Int.lt_or_le m4 nb with h | h
    ·exact h
    exact absurd (show cmpI m4 nb ≥ 0 by rcases Int.lt_or_le (cmpI m4 nb) 0 with h2 | h2; exact absurd (Z3V.1 h2) ZO; exact h2) hc2
   have hov2 := hov.2 ZO
   exact ⟨H11, ZO, hol, hDo, hR4, ZO, hlt3, hov2.1, by rw [hov2.2]; omega⟩
  exact (.cons rfl ZN (.cons rfl ZN .nil))
 refine Z0H ?_
 refine Z06 ?_
 refine Z06 ?_
 refine Z0h ?_
 refine Z02 ?_
 refine Zk [6, 7] ?_
 refine Z03 (Z00 (Zm ?_))
 refine Zc func87 (Z32 hDo ZO (H2.io mem1)) ?_
 rintro vq w17 ⟨_, rfl, hT, hiv⟩
 have H17 := hT _ _ _ _ _ (.tail .head) H2
 refine Zm (Zg (Zg (Z01 (Z02 ?_))))
 refine Zk [4, 5] ?_
 refine Z0i ?_
 refine Z0P results74 rfl rfl ?_
 refine ⟨_, rfl, ?_⟩
 have H18 := St.front1 H17
 obtain rfl : k = 0 := by omega
 rw [Int.pow_zero, Int.mul_one] at hoQ
 rw [Int.pow_zero, Int.ediv_one] at hnQ
 have hd := div_of (n := na) (y := nb) (Q := Q) (r := m) hnQ hm0 hm1
 rw [hd.1, hd.2]
 exact ⟨_, _, _, _, rfl, Ma.Cn.of_tr hDo.dg hoQ, hRm, H18.grows⟩
end Go.Proofs.YtgfkagaacdblbaaGreat.W
