/- walks of the reference's numbers of base 65536 -/
import Derived.Test.YtjcbdogohjafdaaGreatFa
set_option linter.unusedVariables false
set_option linter.unusedSimpArgs false
set_option maxRecDepth 10000
namespace Go.Proofs.YtjcbdogohjafdaaGreat.W
open Go.Vc Go.RowKit Tryz
abbrev D16 (l : List Int) : Prop := Rg 0 65535 l
theorem D16.dg {l : List Int} (h : D16 l) : Ma.Dg 65536 l := fun x hx => by have := h x hx; omega
theorem D16.of_dg {l : List Int} (h : Ma.Dg 65536 l) : D16 l := fun x hx => by have := h x hx; omega
abbrev rv (l : List Int) : Int := Ma.vb 65536 l
theorem D16.rv_nonneg {l : List Int} (h : D16 l) : 0 ≤ rv l := Ma.vb_nonneg (by omega) h.dg
theorem D16.append {l m : List Int} (h : D16 l) (k : D16 m) : D16 (l ++ m) := fun y hy => (List.mem_append.1 hy).elim (h y) (k y)
theorem D16.one {x : Int} (h : 0 ≤ x ∧ x ≤ 65535) : D16 [x] := fun y hy => by rw [List.mem_singleton.1 hy]; exact h
theorem D16.snoc {l : List Int} (h : D16 l) {x : Int} (hx : 0 ≤ x ∧ x ≤ 65535) : D16 (l ++ [x]) := h.append (D16.one hx)
theorem D16.nil : D16 [] := fun _ h => by cases h
theorem D16.tr {l : List Int} (h : D16 l) : D16 (Ma.tr l) := D16.of_dg h.dg.tr
theorem Z4H {l : List Int} {k : Nat} (h : l.length ≤ k) : l.getD k 0 = 0 := by simp [List.getD, h]
theorem Z5A (l : List Int) (x : Int) : rv (l ++ [x]) = rv l + 65536 ^ l.length * x := by simp [Ma.vb_append, Ma.vb]
theorem Z3a {l : List Int} (h : D16 l) (j : Nat) : 0 ≤ l.getD j 0 ∧ l.getD j 0 ≤ 65535 := by
 rcases Nat.lt_or_ge j l.length with hj | hj
 ·exact h.get hj
 simp [List.getD, hj]
abbrev R16 (l : List Int) (n : Int) : Prop := Ma.Cn 65536 l n
theorem R16.d {l : List Int} {n : Int} (h : R16 l n) : D16 l := D16.of_dg h.dg
theorem trimR (A : Option Addr) (c : Nat) (l : List Int) (hD : D16 l) (hL : l.length ≤ 17592186044416) (w : World) (hv : IV w (.slice A (ints .i64 l).length c) (ints .i64 l)) :
  Z0g P 79 [.slice A (ints .i64 l).length c] w fun r w' => r = .slice A (Ma.tr l).length c ∧ w = w' := by
 refine Z0o func79 rfl ntmps79 rfl ?_
 refine Z03 (Z00 (Zg (Z02 (Z01 (Z03 (Z00 (Zm ?_)))))))
 refine Z0C rfl rfl underlying64 rfl (by first | exact hv | assumption) ?_
 refine Zg (Z02 (Z01 (Z03 (Z0c ?_))))
 refine Z0v (ι := Nat) (fun (k : Nat) => k) (fun (k : Nat) (w' : World) => w = w' ∧ k ≤ l.length ∧ ∀ j, k ≤ j → l.getD j 0 = 0) (fun (k : Nat) => [(3, .int .i64 (k : Int))]) [0] (l.length) ?_ (.cons rfl .nil) ?_ ?_
 ·exact ⟨rfl, Nat.le_refl _, fun j hj => by simp [List.getD, hj]⟩
 ·exact (.cons rfl ZN .nil)
 rintro k _ ⟨rfl, hk, hz⟩
 show RunC P _ _ _ (_ :: _) _
 refine Z03 (Z03 (Z00 (Zm ?_)))
 refine Zw ?_
 refine Zm ?_
 apply Z13 6 [0, 3] rfl rfl (.cons rfl (.cons rfl (.cons rfl .nil))) rfl rfl (fun _ => rfl) rfl rfl rfl
 ·intro hg2_3
  refine Zm (Zm ?_)
  refine Z0F rfl rfl rfl rfl (Z0h ZO) ?_
  refine Z0O (j := k - 1) rfl rfl rfl rfl underlying64 tz3 underlying3 rfl rfl (by first | exact hv | assumption) ZA rfl ZO ZI (fun hb2_6 => ?_)
  refine Ze ?_
  refine Z02 ?_
  exact Z0n rfl (.cons rfl (ZT hg2_3) (.cons rfl rfl (.cons rfl rfl .nil)))
 refine Z02 (Z01 ?_)
 refine Zk [0, 3, 15] ?_
 (first | refine Z08 rfl ?_ ?_ | refine Z05 rfl ?_ ?_) <;> intro hc0
 ·refine Z09 (Z01 (Z0c (Z00 (Zm ?_))))
  refine Z0F rfl rfl rfl rfl (Z0h ZO) ?_
  refine Zg (Z02 ?_)
  refine Z0z ?_
  refine Z0j (i := (k)) (k - 1) ?_ ?_ (.cons rfl .nil) ?_
  ·first | omega | (simp; omega)
  ·refine ⟨rfl, ZO, fun j hj => ?_⟩
   rcases Nat.lt_or_ge j k with h | h
   ·obtain rfl : j = k - 1 := by omega
    exact hc0.2
   exact hz j h
  exact (.cons rfl ZN .nil)
 refine Z0y ?_
 refine Z04 ?_
 refine Z04 ?_
 refine Z0d ?_
 refine Z01 (Z03 (Z00 (Zm (Zm ?_))))
 refine v_head (h := k) rfl rfl underlying64 tz3 rfl rfl (by first | exact hv | assumption) ZP ZI (fun A4_2 c4_2 h4_2 => ?_)
 injection h4_2 with e1 e2 e3
 subst e1 e3
 refine Zg (Z02 (Z01 ?_))
 refine Zk [2] ?_
 refine Z0f ?_
 refine Z0l results79 rfl ?_
 refine ⟨_, rfl, ?_⟩
 refine ⟨?_, rfl⟩
 rw [Ma.tr_len_unique hk hz (fun h e => hc0 ⟨ZO, e⟩)]
theorem Z3u {v : Value} {l : List Int} (hD : D16 l) (hL : l.length ≤ 17592186044416) {w : World} (hv : IV w v (ints .i64 l)) : Z0g P 79 [v] w fun r w' => ∃ v', r = v' ∧ Turn w w' (As.ri 3 .i64 v l) (As.ri 3 .i64 v' (Ma.tr l)) ∧ IV w' v' (ints .i64 (Ma.tr l)) := by
 obtain ⟨A, c, rfl, hc, hs⟩ := hv
 have hv : IV w (.slice A (ints .i64 l).length c) (ints .i64 l) := ⟨A, c, rfl, hc, hs⟩
 refine (trimR A c l hD hL w hv).mono ?_
 rintro r _ ⟨rfl, rfl⟩
 have h := Ma.tr_take l
 have e : ints .i64 (Ma.tr l) = (ints .i64 l).take (Ma.tr l).length := by rw [← List.map_take, ← h.1]
 have hl : (Ma.tr l).length ≤ (ints .i64 l).length := by simpa using h.2.1
 refine ⟨_, rfl, fun w0 B M σ σ' u hw => ?_, ?_⟩
 ·unfold As.ri at u
  rw [e] at u
  exact hw.head u hl
 rw [e]; exact hv.head hl
theorem p4 (k : Nat) : (65536 : Int) ^ (4 * k) = 18446744073709551616 ^ k := by rw [Int.pow_mul]; rfl
theorem num_step {s p w A : Int} (h : s + p * w = A) : s + p * (w % 65536) + (p * 65536) * (w / 65536) = A := by
 have e := Int.emod_add_mul_ediv w 65536
 have : p * (w % 65536) + (p * 65536) * (w / 65536) = p * w := by rw [Int.mul_assoc, ← Int.mul_add, e]
 omega
theorem numR (v : Value) (l : List Int) (hU : Rg 0 18446744073709551615 l) (hL : l.length ≤ 68719476736) (w : World) (hv : IV w v (ints .u64 l)) :
  Z0g P 76 [v] w fun r w' => ∃ v ls, r = v ∧ R16 ls (Ma.vb 18446744073709551616 l) ∧ Grow w w' [As.ri 3 .i64 v ls] := by
 refine Z0o func76 rfl ntmps76 rfl ?_
 have H0 := St.start w
 refine Z03 (Z00 (Zg (Z02 (Z01 (Z03 (Z00 (Zg (Z02 (Z01 (Z03 (Z03 ?_)))))))))))
 refine Z00 (Zg (Z02 (Z01 (Z0c ?_))))
 refine Z0v (ι := Nat × List Int × Value) (fun (z0 : Nat × List Int × Value) => match z0 with | ⟨k, a, va⟩ => l.length - k) (fun (z0 : Nat × List Int × Value) (w' : World) => match z0 with | ⟨k, a, va⟩ => St w w.heap.size Z0B ([As.ri 3 .i64 va a]) w' ∧ k ≤ l.length ∧ a.length = 4 * k ∧ D16 a ∧ rv a = Ma.vb 18446744073709551616 (l.take k)) (fun (z0 : Nat × List Int × Value) => match z0 with | ⟨k, a, va⟩ => [(3, va), (4, .int .i64 (k : Int))]) [0] (0, [], .slice none 0 0) ?_ (.cons rfl .nil) ?_ ?_
 ·exact ⟨H0.nil 3, ZO, rfl, D16.nil, by simp [Ma.vb]⟩
 ·exact (.cons rfl ZN (.cons rfl ZN .nil))
 rintro ⟨k, a, va⟩ w1 ⟨H1, hk, hal, hDa, hra⟩
 show RunC P _ _ _ (_ :: _) _
 refine Z03 (Z03 (Z00 (Zm (Zm ?_))))
 refine Z0C rfl rfl underlying47 rfl (by first | exact H1.io mem0 | exact H1.iarg hv | assumption) ?_
 refine Zl ?_
 refine Z02 (Z01 ?_)
 (first | refine Z08 rfl ?_ ?_ | refine Z05 rfl ?_ ?_) <;> intro hc0
 ·refine Z09 (Z01 ?_)
  refine Zk [0, 3, 4] ?_
  refine Z03 (Z0c (Z03 (Z00 (Zm (Zm ?_)))))
  refine Z0O rfl rfl rfl rfl underlying47 tz30 underlying30 rfl rfl (by first | exact H1.io mem0 | exact H1.iarg hv | assumption) ZA rfl rfl ZI (fun hb5_2 => ?_)
  refine Zg (Z02 (Z01 (Z03 (Z00 (Zg (Z02 (Z01 (Z0c ?_))))))))
  refine Z0v (ι := Nat × Int × List Int × Value) (fun (z0 : Nat × Int × List Int × Value) => match z0 with | ⟨kk, ww, a', va'⟩ => 4 - kk) (fun (z0 : Nat × Int × List Int × Value) (w' : World) => match z0 with | ⟨kk, ww, a', va'⟩ => St w w.heap.size Z0B ([As.ri 3 .i64 va' a']) w' ∧ kk ≤ 4 ∧ a'.length = 4 * k + kk ∧ D16 a' ∧ 0 ≤ ww ∧ (kk = 0 → ww ≤ 18446744073709551615) ∧ (kk = 1 → ww ≤ 281474976710655) ∧ (kk = 2 → ww ≤ 4294967295) ∧ (kk = 3 → ww ≤ 65535) ∧ (kk = 4 → ww = 0) ∧ rv a' + 65536 ^ (4 * k + kk) * ww = Ma.vb 18446744073709551616 (l.take k) + 65536 ^ (4 * k) * l.getD k 0) (fun (z0 : Nat × Int × List Int × Value) => match z0 with | ⟨kk, ww, a', va'⟩ => [(3, va'), (5, .int .u64 ww), (6, .int .i64 (kk : Int))]) [0, 4] (0, l.getD k 0, a, va) ?_ (.cons rfl (.cons rfl .nil)) ?_ ?_
  ·exact ⟨H1, ZO, ZO, hDa, ZO, ZO, ZO, ZO, ZO, ZO, by rw [hra, Nat.add_zero]⟩
  ·exact (.cons rfl ZN (.cons rfl ZN (.cons rfl ZN .nil)))
  rintro ⟨kk, ww, a', va'⟩ w2 ⟨H2, hkk, hal', hDa', hww, hb0, hb1, hb2, hb3, hb4, hra'⟩
  show RunC P _ _ _ (_ :: _) _
  refine Z03 (Z03 (Z00 (Zm ?_)))
  refine Zl ?_
  refine Z02 (Z01 ?_)
  (first | refine Z08 rfl ?_ ?_ | refine Z05 rfl ?_ ?_) <;> intro hc1
  ·refine Z09 (Z01 ?_)
   refine Zk [0, 3, 4, 5, 6] ?_
   refine Z03 (Z0c (Z03 (Z00 (Zm (Zm ?_)))))
   refine Z2x rfl rfl rfl rfl ZO (Z2P ZO) ?_
   refine Z1A rfl rfl underlying30 underlying3 rfl (Z0h ZO) ?_
   refine Z17 H2 rfl rfl underlying64 ti3 rfl (.cons rfl ZR .nil) rfl rfl rfl (fun b9_4 w3 H3 => ?_)
   refine Z2d H3 rfl rfl underlying64 ti3 rfl rfl rfl rfl (by first | (simp [Value.oneCell']; done) | (intro u hu; rw [List.mem_singleton.1 hu]; assumption)) (by first | (simp; done) | (simp; omega)) (by first | (simp; done) | (simp; omega)) (fun v9_5 w4 H4 => ?_)
   refine Zg (Z02 (Z01 (Z00 (Zm ?_))))
   refine Z2W rfl rfl rfl rfl ZO (q_u64 ZO) ?_
   refine Zg (Z02 ?_)
   refine Z0z ?_
   refine Z01 (Z00 (Zm ?_))
   refine Z0t rfl rfl rfl rfl (Z0h ZO) ?_
   refine Zg (Z02 ?_)
   refine Z0j (i := (kk, ww, a', va')) (kk + 1, ww / 65536, a' ++ [ww % 65536], v9_5) ?_ ?_ (.cons rfl (.cons rfl .nil)) ?_
   ·first | omega | (simp; omega)
   ·refine ⟨H4.cast (by rw [ints_snoc]), ZO, by simp; omega, hDa'.snoc ZO, ZO, ZO, ZO, ZO, ZO, ZO, ?_⟩
    rw [Z5A, hal', show 4 * k + (kk + 1) = (4 * k + kk) + 1 from by omega, Int.pow_succ]
    exact num_step hra'
   exact (.cons rfl ZN (.cons rfl ZN (.cons rfl ZN .nil)))
  refine Z0y ?_
  refine Z04 ?_
  refine Z04 ?_
  refine Z0d ?_
  refine Z0z ?_
  refine Z01 ?_
  refine Zk [0, 3, 4] ?_
  refine Z00 (Zm ?_)
  refine Z0t rfl rfl rfl rfl (Z0h ZO) ?_
  refine Zg (Z02 ?_)
  refine Z0j (i := (k, a, va)) (k + 1, a', va') ?_ ?_ (.cons rfl .nil) ?_
  ·first | omega | (simp; omega)
  ·have H0' : ww = 0 := by omega
   subst H0'
   have hk4 : kk = 4 := by omega
   subst hk4
   refine ⟨H2, ZO, ZO, hDa', ?_⟩
   rw [Int.mul_zero, Int.add_zero] at hra'
   rw [hra', Ma.vb_take_succ, p4]
  exact (.cons rfl ZN (.cons rfl ZN .nil))
 refine Z0y ?_
 refine Z04 ?_
 refine Z04 ?_
 refine Z0d ?_
 refine Z01 (Z03 (Z00 (Zm ?_)))
 refine Zc func79 (Z3u hDa ZO (H1.io mem0)) ?_
 rintro _ w5 ⟨v', rfl, hT, _⟩
 have H5 := hT _ _ _ _ _ .head H1
 refine Zg (Z02 (Z01 ?_))
 refine Z0f ?_
 refine Z0l results76 rfl ?_
 refine ⟨_, rfl, ?_⟩
 refine ⟨_, _, rfl, ?_, H5.grows⟩
 rw [List.take_of_length_le ZO] at hra
 exact Ma.Cn.of_tr hDa.dg hra
def word (l : List Int) (i k : Nat) : Int := Ma.vb 65536 ((l.drop (i + k)).take (4 - k))
theorem word_four (l : List Int) (i : Nat) : word l i 4 = 0 := by simp [word, Ma.vb]
theorem word_in {l : List Int} {i k : Nat} (h0 : 0 < k) (h4 : k ≤ 4) (h : i + (k - 1) < l.length) : word l i (k - 1) = word l i k * 65536 + l.getD (i + (k - 1)) 0 := by
 obtain ⟨k, rfl⟩ : ∃ m, k = m + 1 := ⟨k - 1, ZO⟩
 have e : l.getD (i + k) 0 = l[i + k] := by simp [List.getD, show i + k < l.length from h]
 show Ma.vb 65536 ((l.drop (i + k)).take (4 - k)) = Ma.vb 65536 ((l.drop (i + (k + 1))).take (4 - (k + 1))) * 65536 + l.getD (i + k) 0
 rw [e, List.drop_eq_getElem_cons (show i + k < l.length from h), show 4 - k = (4 - (k + 1)) + 1 from by omega, List.take_succ_cons, Ma.vb]
 rw [Int.mul_comm 65536, show i + (k + 1) = i + k + 1 from rfl]; omega
theorem word_out {l : List Int} {i k : Nat} (h0 : 0 < k) (h : l.length ≤ i + (k - 1)) : word l i (k - 1) = word l i k * 65536 := by
 unfold word
 rw [List.drop_eq_nil_of_le h, List.drop_eq_nil_of_le (show l.length ≤ i + k by omega)]
 simp [Ma.vb]
theorem word_take (l : List Int) {i : Nat} (h : i ≤ l.length) : rv (l.take (i + 4)) = rv (l.take i) + 65536 ^ i * word l i 0 := by
 show Ma.vb _ _ = _
 rw [List.take_add, Ma.vb_append, List.length_take, Nat.min_eq_left h]
 rfl
theorem wordsR (v : Value) (l : List Int) (n : Int) (hR : R16 l n) (hL : l.length ≤ 17592186044416) (w : World) (hv : IV w v (ints .i64 l)) :
  Z0g P 136 [v] w fun r w' => ∃ v ls, r = v ∧ Ma.Cn 18446744073709551616 ls n ∧ Grow w w' [As.ri 30 .u64 v ls] := by
 refine Z0o func136 rfl ntmps136 rfl ?_
 have H0 := St.start w
 have hD := hR.d
 refine Z03 (Z00 (Zg (Z02 (Z01 (Z03 (Z00 (Zg (Z02 (Z01 (Z03 (Z03 ?_)))))))))))
 refine Z00 (Zg (Z02 (Z01 (Z0c ?_))))
 refine Z0v (ι := Nat × List Int × Value) (fun (z0 : Nat × List Int × Value) => match z0 with | ⟨k, o, vo⟩ => l.length + 4 - 4 * k) (fun (z0 : Nat × List Int × Value) (w' : World) => match z0 with | ⟨k, o, vo⟩ => St w w.heap.size Z0B ([As.ri 30 .u64 vo o]) w' ∧ 4 * k ≤ l.length + 3 ∧ o.length = k ∧ Rg 0 18446744073709551615 o ∧ Ma.vb 18446744073709551616 o = rv (l.take (4 * k))) (fun (z0 : Nat × List Int × Value) => match z0 with | ⟨k, o, vo⟩ => [(3, vo), (4, .int .i64 ((4 * k : Nat) : Int))]) [0] (0, [], .slice none 0 0) ?_ (.cons rfl .nil) ?_ ?_
 ·exact ⟨H0.nil 30, ZO, rfl, (fun _ h => by cases h), by simp [Ma.vb]⟩
 ·exact (.cons rfl ZN (.cons rfl ZN .nil))
 rintro ⟨k, o, vo⟩ w1 ⟨H1, hk, hol, hUo, hvo⟩
 show RunC P _ _ _ (_ :: _) _
 refine Z03 (Z03 (Z00 (Zm (Zm ?_))))
 refine Z0C rfl rfl underlying64 rfl (by first | exact H1.io mem0 | exact H1.iarg hv | assumption) ?_
 refine Zl ?_
 refine Z02 (Z01 ?_)
 (first | refine Z08 rfl ?_ ?_ | refine Z05 rfl ?_ ?_) <;> intro hc0
 ·refine Z09 (Z01 ?_)
  refine Zk [0, 3, 4] ?_
  refine Z03 (Z0c (Z03 (Z00 (Zg (Z02 (Z01 (Z03 (Z03 (Z00 (Zg (Z02 ?_)))))))))))
  refine Z01 (Z0c ?_)
  refine Z0v (ι := Nat × Int) (fun (z0 : Nat × Int) => match z0 with | ⟨kk, ww⟩ => kk) (fun (z0 : Nat × Int) (w' : World) => match z0 with | ⟨kk, ww⟩ => St w w.heap.size Z0B ([As.ri 30 .u64 vo o]) w' ∧ kk ≤ 4 ∧ 0 ≤ ww ∧ (kk = 4 → ww = 0) ∧ (kk = 3 → ww ≤ 65535) ∧ (kk = 2 → ww ≤ 4294967295) ∧ (kk = 1 → ww ≤ 281474976710655) ∧ (kk = 0 → ww ≤ 18446744073709551615) ∧ ww = word l (4 * k) kk) (fun (z0 : Nat × Int) => match z0 with | ⟨kk, ww⟩ => [(5, .int .u64 ww), (6, .int .i64 ((kk : Int) - 1))]) [0, 3, 4] (4, 0) ?_ (.cons rfl (.cons rfl (.cons rfl .nil))) ?_ ?_
  ·exact ⟨H1, ZO, ZO, ZO, ZO, ZO, ZO, ZO, (word_four l _).symm⟩
  ·exact (.cons rfl ZN (.cons rfl ZN .nil))
  rintro ⟨kk, ww⟩ w2 ⟨H2, hkk, hww, hb4, hb3, hb2, hb1, hb0, hval⟩
  show RunC P _ _ _ (_ :: _) _
  have hkk0 : kk = 0 ∨ kk = 1 ∨ kk = 2 ∨ kk = 3 ∨ kk = 4 := by omega
  have H64 : 0 < kk → ww * 65536 ≤ 18446744073709486080 := by omega
  refine Z03 (Z03 (Z00 (Zm ?_)))
  refine Zh ?_
  refine Z02 (Z01 ?_)
  (first | refine Z08 rfl ?_ ?_ | refine Z05 rfl ?_ ?_) <;> intro hc1
  ·refine Z09 (Z01 (Z03 (Z0c (Z03 (Z00 (Zm ?_))))))
   refine Z1m rfl rfl rfl rfl (Z0M ZO) ?_
   refine Zg (Z02 (Z01 ?_))
   refine Zk [0, 3, 4, 5, 6] ?_
   refine Z03 (Z00 (Zm (Zm ?_)))
   refine Z0t rfl rfl rfl rfl (Z0h ZO) ?_
   refine Zm ?_
   refine Z0C rfl rfl underlying64 rfl (by first | exact H2.io mem0 | exact H2.iarg hv | assumption) ?_
   refine Zl ?_
   refine Z02 (Z01 ?_)
   (first | refine Z08 rfl ?_ ?_ | refine Z05 rfl ?_ ?_) <;> intro hc2
   ·refine Z00 (Zm (Zm (Zm (Zm ?_))))
    refine Z0t rfl rfl rfl rfl (Z0h ZO) ?_
    refine Z0O (j := 4 * k + (kk - 1)) rfl rfl rfl rfl underlying64 tz3 underlying3 rfl rfl (by first | exact H2.io mem0 | exact H2.iarg hv | assumption) ZA rfl ZO ZI (fun hb11_5 => ?_)
    refine Z1A rfl rfl underlying3 underlying30 rfl (Z0M ZO) ?_
    refine Z0t rfl rfl rfl rfl (Z0M ZO) ?_
    refine Zg (Z02 ?_)
    refine Z0z ?_
    refine Z01 (Z00 (Zm ?_))
    refine Z0F rfl rfl rfl rfl (Z0h ZO) ?_
    refine Zg (Z02 ?_)
    refine Z0j (i := (kk, ww)) (kk - 1, ww * 65536 + l.getD (4 * k + (kk - 1)) 0) ?_ ?_ (.cons rfl (.cons rfl (.cons rfl .nil))) ?_
    ·first | omega | (simp; omega)
    ·exact ⟨H2, ZO, ZO, ZO, ZO, ZO, ZO, ZO, by rw [word_in ZO hkk ZO, hval]⟩
    exact (.cons rfl ZN (.cons rfl ZN .nil))
   refine Z09 ?_
   refine Z0z ?_
   refine Z01 ?_
   refine Zk [0, 3, 4, 5, 6] ?_
   refine Z00 (Zm ?_)
   refine Z0F rfl rfl rfl rfl (Z0h ZO) ?_
   refine Zg (Z02 ?_)
   refine Z0j (i := (kk, ww)) (kk - 1, ww * 65536) ?_ ?_ (.cons rfl (.cons rfl (.cons rfl .nil))) ?_
   ·first | omega | (simp; omega)
   ·exact ⟨H2, ZO, ZO, ZO, ZO, ZO, ZO, ZO, by rw [word_out ZO ZO, hval]⟩
   exact (.cons rfl ZN (.cons rfl ZN .nil))
  refine Z0y ?_
  refine Z04 ?_
  refine Z04 ?_
  refine Z0d ?_
  refine Z01 (Z00 (Zm (Zm ?_)))
  refine Z17 H2 rfl rfl underlying47 ti30 rfl (.cons rfl ZR .nil) rfl rfl rfl (fun b12_2 w3 H3 => ?_)
  refine Z2d H3 rfl rfl underlying47 ti30 rfl rfl rfl rfl (by first | (simp [Value.oneCell']; done) | (intro u hu; rw [List.mem_singleton.1 hu]; assumption)) (by first | (simp; done) | (simp; omega)) (by first | (simp; done) | (simp; omega)) (fun v12_3 w4 H4 => ?_)
  refine Zg (Z02 ?_)
  refine Z0z ?_
  refine Z01 (Z00 (Zm ?_))
  refine Z0t rfl rfl rfl rfl (Z0h ZO) ?_
  refine Zg (Z02 ?_)
  refine Z0j (i := (k, o, vo)) (k + 1, o ++ [ww], v12_3) ?_ ?_ (.cons rfl .nil) ?_
  ·first | omega | (simp; omega)
  ·have hkk : kk = 0 := by omega
   subst hkk
   refine ⟨H4.cast (by rw [ints_snoc]), ZO, by simp; omega, fun y hy => (List.mem_append.1 hy).elim (hUo y) (fun h => by rw [List.mem_singleton.1 h]; omega), ?_⟩
   rw [Ma.vb_append, hvo, hol, ← p4]
   have e := word_take l (i := 4 * k) ZO
   simp only [Ma.vb, Int.mul_zero, Int.add_zero]
   rw [show 4 * (k + 1) = 4 * k + 4 from by omega, e, hval]
  exact (.cons rfl ZN (.cons rfl ZN .nil))
 refine Z0y ?_
 refine Z04 ?_
 refine Z04 ?_
 refine Z0d ?_
 refine Z01 ?_
 refine Zk [3] ?_
 refine Z03 (Z00 (Zm (Zg (Z02 (Z01 ?_)))))
 refine Z0f ?_
 refine Z0l results136 rfl ?_
 refine ⟨_, rfl, ?_⟩
 refine ⟨_, _, rfl, ?_, H1.grows⟩
 rw [List.take_of_length_le ZO] at hvo
 have hn : Ma.vb 18446744073709551616 o = n := hvo.trans hR.val
 refine ⟨fun x hx => by have := hUo x hx; omega, Ma.Tr.of_ge (show (1 : Int) < 18446744073709551616 by omega) (fun x hx => by have := hUo x hx; omega) fun hne => ?_, hn⟩
 rw [hvo, hol, ← p4]
 have hp := Ma.Tr.pos (show (0 : Int) < 65536 by omega) hR.dg hR.tr (by intro e; subst e; simp at hc0; apply hne; exact List.eq_nil_of_length_eq_zero (by simp at hk; omega))
 have hpm : (65536 : Int) ^ (4 * (k - 1)) ≤ 65536 ^ (l.length - 1) := Ma.pow_mono ZO ZO
 exact Int.le_trans hpm hp
theorem sumR (a b : Value) (la lb : List Int) (na nb : Int) (hRa : R16 la na) (hRb : R16 lb nb) (hLa : la.length ≤ 1099511627776) (hLb : lb.length ≤ 1099511627776) (w : World) (ha : IV w a (ints .i64 la)) (hb : IV w b (ints .i64 lb)) :
  Z0g P 101 [a, b] w fun r w' => ∃ v ls, r = v ∧ R16 ls (na + nb) ∧ Grow w w' [As.ri 3 .i64 v ls] := by
 refine Z0o func101 rfl ntmps101 rfl ?_
 have H0 := St.start w
 have hDa := hRa.d
 have hDb := hRb.d
 refine Z03 (Z00 (Zg (Z02 (Z01 (Z03 (Z00 (Zg (Z02 (Z01 (Z03 (Z00 ?_)))))))))))
 refine Zg (Z02 (Z01 (Z03 (Z03 (Z00 (Zg (Z02 (Z01 (Z0c ?_)))))))))
 refine Z0v (ι := Nat × List Int × Int × Value) (fun (z0 : Nat × List Int × Int × Value) => match z0 with | ⟨k, o, c, vo⟩ => max la.length lb.length + 1 - k) (fun (z0 : Nat × List Int × Int × Value) (w' : World) => match z0 with | ⟨k, o, c, vo⟩ => St w w.heap.size Z0B ([As.ri 3 .i64 vo o]) w' ∧ k ≤ max la.length lb.length + 1 ∧ o.length = k ∧ D16 o ∧ 0 ≤ c ∧ c ≤ 1 ∧ (k = max la.length lb.length + 1 → c = 0 ∧ 65536 ^ (max la.length lb.length) ≤ rv o) ∧ rv o + 65536 ^ k * c = rv (la.take k) + rv (lb.take k)) (fun (z0 : Nat × List Int × Int × Value) => match z0 with | ⟨k, o, c, vo⟩ => [(5, vo), (6, .int .i64 c), (7, .int .i64 (k : Int))]) [0, 1] (0, [], 0, .slice none 0 0) ?_ (.cons rfl (.cons rfl .nil)) ?_ ?_
 ·exact ⟨H0.nil 3, ZO, rfl, D16.nil, ZO, ZO, (fun h => by omega), by simp [Ma.vb]⟩
 ·exact (.cons rfl ZN (.cons rfl ZN (.cons rfl ZN .nil)))
 rintro ⟨k, o, c, vo⟩ w1 ⟨H1, hk, hol, hDo, hc1, hc2, hlast, hval⟩
 show RunC P _ _ _ (_ :: _) _
 refine Z03 (Z03 (Z00 (Zm (Zm ?_))))
 refine Z0C rfl rfl underlying64 rfl (by first | exact H1.io mem0 | exact H1.iarg ha | exact H1.iarg hb | assumption) ?_
 refine Zl ?_
 refine Zm ?_
 apply l_or 4 [0, 1, 5, 6, 7] rfl rfl (.cons rfl (.cons rfl (.cons rfl (.cons rfl (.cons rfl (.cons rfl .nil)))))) rfl rfl (fun _ => rfl) rfl rfl rfl
 ·intro hg4_5
  refine Zm (Zm ?_)
  refine Z0C rfl rfl underlying64 rfl (by first | exact H1.io mem0 | exact H1.iarg ha | exact H1.iarg hb | assumption) ?_
  refine Zl ?_
  refine Z02 ?_
  exact Z0n rfl (.cons rfl (ZF hg4_5) (.cons rfl rfl (.cons rfl rfl (.cons rfl rfl (.cons rfl rfl (.cons rfl rfl .nil))))))
 refine Zm ?_
 apply l_or 2 [0, 1, 5, 6, 7] rfl rfl (.cons rfl (.cons rfl (.cons rfl (.cons rfl (.cons rfl (.cons rfl .nil)))))) rfl rfl (fun _ => rfl) rfl rfl rfl
 ·intro hg4_11
  refine Zm ?_
  refine Zw ?_
  refine Z02 ?_
  exact Z0n rfl (.cons rfl (ZF hg4_11) (.cons rfl rfl (.cons rfl rfl (.cons rfl rfl (.cons rfl rfl (.cons rfl rfl .nil))))))
 refine Z02 (Z01 ?_)
 (first | refine Z08 rfl ?_ ?_ | refine Z05 rfl ?_ ?_) <;> intro hc0
 ·refine Z09 (Z01 ?_)
  refine Zk [0, 1, 5, 6, 7] ?_
  refine Z03 (Z0c ?_)
  refine Z0R (ι := Int) (fun (c1 : Int) (w' : World) => St w w.heap.size Z0B ([As.ri 3 .i64 vo o]) w' ∧ c1 = c + la.getD k 0) (fun (c1 : Int) => [(6, .int .i64 c1)]) [0, 1, 5, 7] (.cons rfl (.cons rfl (.cons rfl (.cons rfl .nil)))) ?_ ?_
  ·refine Z03 (Z00 (Zm (Zm ?_)))
   refine Z0C rfl rfl underlying64 rfl (by first | exact H1.io mem0 | exact H1.iarg ha | exact H1.iarg hb | assumption) ?_
   refine Zl ?_
   refine Z02 (Z01 ?_)
   (first | refine Z08 rfl ?_ ?_ | refine Z05 rfl ?_ ?_) <;> intro hc1
   ·refine Z00 (Zm (Zm (Zm ?_)))
    refine Z0O rfl rfl rfl rfl underlying64 tz3 underlying3 rfl rfl (by first | exact H1.io mem0 | exact H1.iarg ha | exact H1.iarg hb | assumption) ZA rfl rfl ZI (fun hb7_3 => ?_)
    refine Z0t rfl rfl rfl rfl (Z0h ZO) ?_
    refine Zg (Z02 ?_)
    refine Z0s (c + la.getD k 0) ?_ (.cons rfl (.cons rfl (.cons rfl (.cons rfl .nil)))) ?_
    ·exact ⟨H1, rfl⟩
    exact (.cons rfl ZN .nil)
   refine Z09 ?_
   refine Z0s (c) ?_ (.cons rfl (.cons rfl (.cons rfl (.cons rfl .nil)))) ?_
   ·exact ⟨H1, by rw [Z4H ZO]; omega⟩
   exact (.cons rfl ZN .nil)
  rintro c1 w2 ⟨H2, hc1v⟩
  show RunC P _ _ _ (_ :: _) _
  refine Z0R (ι := Int) (fun (c2 : Int) (w' : World) => St w w.heap.size Z0B ([As.ri 3 .i64 vo o]) w' ∧ c2 = c + la.getD k 0 + lb.getD k 0) (fun (c2 : Int) => [(6, .int .i64 c2)]) [0, 1, 5, 7] (.cons rfl (.cons rfl (.cons rfl (.cons rfl .nil)))) ?_ ?_
  ·refine Z03 (Z00 ?_)
   have ga := Z3a hDa k
   refine Zm (Zm ?_)
   refine Z0C rfl rfl underlying64 rfl (by first | exact H2.io mem0 | exact H2.iarg ha | exact H2.iarg hb | assumption) ?_
   refine Zl ?_
   refine Z02 (Z01 ?_)
   (first | refine Z08 rfl ?_ ?_ | refine Z05 rfl ?_ ?_) <;> intro hc2
   ·refine Z00 ?_
    have gb := Z3a hDb k
    refine Zm (Zm (Zm ?_))
    refine Z0O rfl rfl rfl rfl underlying64 tz3 underlying3 rfl rfl (by first | exact H2.io mem0 | exact H2.iarg ha | exact H2.iarg hb | assumption) ZA rfl rfl ZI (fun hb9_3 => ?_)
    refine Z0t rfl rfl rfl rfl (Z0h ZO) ?_
    refine Zg (Z02 ?_)
    refine Z0s (c1 + lb.getD k 0) ?_ (.cons rfl (.cons rfl (.cons rfl (.cons rfl .nil)))) ?_
    ·exact ⟨H2, ZO⟩
    exact (.cons rfl ZN .nil)
   refine Z09 ?_
   refine Z0s (c1) ?_ (.cons rfl (.cons rfl (.cons rfl (.cons rfl .nil)))) ?_
   ·exact ⟨H2, by rw [Z4H (l := lb) ZO]; omega⟩
   exact (.cons rfl ZN .nil)
  rintro c2 w3 ⟨H3, hc2v⟩
  show RunC P _ _ _ (_ :: _) _
  refine Z03 (Z00 ?_)
  have ga := Z3a hDa k
  have gb := Z3a hDb k
  refine Zm (Zm ?_)
  refine Z2x rfl rfl rfl rfl ZO (Z2P ZO) ?_
  refine Z17 H3 rfl rfl underlying64 ti3 rfl (.cons rfl ZR .nil) rfl rfl rfl (fun b10_3 w4 H4 => ?_)
  refine Z2d H4 rfl rfl underlying64 ti3 rfl rfl rfl rfl (by first | (simp [Value.oneCell']; done) | (intro u hu; rw [List.mem_singleton.1 hu]; assumption)) (by first | (simp; done) | (simp; omega)) (by first | (simp; done) | (simp; omega)) (fun v10_4 w5 H5 => ?_)
  refine Zg (Z02 (Z01 ?_))
  refine Zk [0, 1, 5, 6, 7] ?_
  refine Z00 (Zm ?_)
  refine Z2W rfl rfl rfl rfl ZO (Z4x ZO) ?_
  refine Zg (Z02 ?_)
  refine Z0z ?_
  refine Z01 (Z00 (Zm ?_))
  refine Z0t rfl rfl rfl rfl (Z0h ZO) ?_
  refine Zg (Z02 ?_)
  refine Z0j (i := (k, o, c, vo)) (k + 1, o ++ [c2 % 65536], c2 / 65536, v10_4) ?_ ?_ (.cons rfl (.cons rfl .nil)) ?_
  ·first | omega | (simp; omega)
  ·have ga := Z3a hDa k
   have gb := Z3a hDb k
   refine ⟨H5.cast (by rw [ints_snoc]), ZO, by simp; omega, hDo.snoc ZO, ZO, ZO, fun h => ?_, ?_⟩
   ·have z1 : la.getD k 0 = 0 := by simp [List.getD, show la.length ≤ k by omega]
    have z2 : lb.getD k 0 = 0 := by simp [List.getD, show lb.length ≤ k by omega]
    have hcc : c = 1 := by omega
    rw [Z5A, hol, show max la.length lb.length = k from by omega, show c2 % 65536 = 1 from by omega]
    have := hDo.rv_nonneg
    exact ⟨ZO, ZO⟩
   rw [Z5A, hol, Int.pow_succ]
   have h2 := Ma.vb_take_succ 65536 la k
   have h3 := Ma.vb_take_succ 65536 lb k
   show _ = Ma.vb _ _ + Ma.vb _ _
   rw [h2, h3, hc2v, show c + la.getD k 0 + lb.getD k 0 = la.getD k 0 + lb.getD k 0 + c from by omega]
   exact sum_step ZO hval
  exact (.cons rfl ZN (.cons rfl ZN (.cons rfl ZN .nil)))
 refine Z0y ?_
 refine Z04 ?_
 refine Z04 ?_
 refine Z0d ?_
 refine Z01 (Z03 (Z00 (Zm (Zg (Z02 (Z01 ?_))))))
 refine Zk [4] ?_
 refine Z0f ?_
 refine Z0l results101 rfl ?_
 refine ⟨_, rfl, ?_⟩
 refine ⟨_, _, rfl, ⟨hDo.dg, Ma.Tr.of_ge (show (1 : Int) < 65536 by omega) hDo.dg fun hne => ?_, ?_⟩, H1.grows⟩
 ·rcases Nat.lt_or_ge (max la.length lb.length) k with h | h
  ·rw [hol, show k - 1 = max la.length lb.length from by omega]
   exact (hlast ZO).2
  have hc0' : c = 0 := by omega
  have hm : k = max la.length lb.length := by omega
  have hk0 : 0 < k := by rw [← hol]; exact List.length_pos_iff.2 hne
  rw [hc0', Int.mul_zero, Int.add_zero, List.take_of_length_le (show la.length ≤ k by omega), List.take_of_length_le (show lb.length ≤ k by omega)] at hval
  show _ ≤ rv o
  rw [hval, hol]
  have pa := hDa.rv_nonneg
  have pb := hDb.rv_nonneg
  rcases Nat.lt_or_ge la.length k with hla | hla
  ·have : (65536 : Int) ^ (lb.length - 1) ≤ rv lb := Ma.Tr.pos (show (0 : Int) < 65536 by omega) hRb.dg hRb.tr (by intro e; subst e; simp at hm; omega)
   rw [show lb.length = k from by omega] at this
   omega
  have : (65536 : Int) ^ (la.length - 1) ≤ rv la := Ma.Tr.pos (show (0 : Int) < 65536 by omega) hRa.dg hRa.tr (by intro e; subst e; simp at hla; omega)
  rw [show la.length = k from by omega] at this
  omega
 have hc0' : c = 0 := by omega
 rw [hc0', Int.mul_zero, Int.add_zero, List.take_of_length_le (show la.length ≤ k by omega), List.take_of_length_le (show lb.length ≤ k by omega)] at hval
 rw [show Ma.vb 65536 o = rv o from rfl, hval]
 show Ma.vb 65536 la + Ma.vb 65536 lb = _
 rw [hRa.val, hRb.val]
theorem bitsR (v : Value) (l : List Int) (n : Int) (hR : R16 l n) (hL : l.length ≤ 17592186044416) (w : World) (hv : IV w v (ints .i64 l)) :
  Z0g P 135 [v] w fun r w' => r = .int .i64 (Ma.blen n) ∧ w = w' := by
 refine Z0o func135 rfl ntmps135 rfl ?_
 have hD := hR.d
 refine Z03 (Z00 (Zg (Z02 (Z01 (Z03 (Z03 (Z00 (Zm ?_))))))))
 refine Z0C rfl rfl underlying64 rfl (by first | exact hv | assumption) ?_
 refine Ze ?_
 refine Z02 (Z01 ?_)
 (first | refine Z08 rfl ?_ ?_ | refine Z05 rfl ?_ ?_) <;> intro hc0
 ·refine Z03 (Z00 (Zg (Z02 (Z01 ?_))))
  refine Zk [2] ?_
  refine Z0f ?_
  refine Z06 ?_
  refine Z0l results135 rfl ?_
  refine ⟨_, rfl, ?_⟩
  obtain rfl : l = [] := List.eq_nil_of_length_eq_zero ZO
  rw [← hR.val]
  exact ⟨rfl, rfl⟩
 refine Z09 (Z01 (Z03 (Z00 (Zm ?_))))
 refine Z0C rfl rfl underlying64 rfl (by first | exact hv | assumption) ?_
 refine Z0F rfl rfl rfl rfl (Z0h ZO) ?_
 refine Z1m rfl rfl rfl rfl (Z0h ZO) ?_
 refine Zg (Z02 (Z01 (Z03 (Z03 (Z00 (Zm (Zm ?_)))))))
 refine Z0C rfl rfl underlying64 rfl (by first | exact hv | assumption) ?_
 refine Z0F rfl rfl rfl rfl (Z0h ZO) ?_
 refine Z0O (j := l.length - 1) rfl rfl rfl rfl underlying64 tz3 underlying3 rfl rfl (by first | exact hv | assumption) ZA rfl ZO ZI (fun hb4_4 => ?_)
 refine Zg (Z02 (Z01 ?_))
 refine Zk [3, 4] ?_
 refine Z0c ?_
 refine Z0v (ι := Int × Int) (fun (z0 : Int × Int) => match z0 with | ⟨x, c⟩ => x.toNat) (fun (z0 : Int × Int) (w' : World) => match z0 with | ⟨x, c⟩ => w = w' ∧ 0 ≤ x ∧ x ≤ 65535 ∧ 0 ≤ c ∧ Ma.blen n = c + Ma.blen x ∧ c + Ma.blen x ≤ 281474976710656) (fun (z0 : Int × Int) => match z0 with | ⟨x, c⟩ => [(3, .int .i64 c), (4, .int .i64 x)]) [] (l.getD (l.length - 1) 0, 16 * ((l.length : Int) - 1)) ?_ .nil ?_ ?_
 ·have hb := Ma.blen_top (s := 16) hR.dg hR.tr ZO
  rw [show ((2 : Int) ^ 16) = 65536 from rfl, hR.val] at hb
  have h16 : Ma.blen (l.getD (l.length - 1) 0) ≤ 16 := (Ma.blen_le_iff hb4_4.1 16).2 ZO
  exact ⟨rfl, hb4_4.1, hb4_4.2, ZO, hb, ZO⟩
 ·exact (.cons rfl ZN (.cons rfl ZN .nil))
 rintro ⟨x, c⟩ _ ⟨rfl, hx0, hx1, hcc, hbl, hlim⟩
 show RunC P _ _ _ (_ :: _) _
 have hxx := Ma.blen_nonneg x
 refine Z03 (Z03 (Z00 (Zm ?_)))
 refine Zw ?_
 refine Z02 (Z01 ?_)
 (first | refine Z08 rfl ?_ ?_ | refine Z05 rfl ?_ ?_) <;> intro hc1
 ·refine Z09 (Z01 (Z03 (Z0c (Z00 (Zm ?_)))))
  refine Z0t rfl rfl rfl rfl (Z0h ZO) ?_
  refine Zg (Z02 ?_)
  refine Z0z ?_
  refine Z01 ?_
  refine Zk [3, 4] ?_
  refine Z00 (Zm ?_)
  refine Z2W rfl rfl rfl rfl ZO (Z4x ZO) ?_
  refine Zg (Z02 ?_)
  refine Z0j (i := (x, c)) (x / 2, c + 1) ?_ ?_ .nil ?_
  ·first | omega | (simp; omega)
  ·have hh := Ma.blen_half (n := x) ZO
   refine ⟨rfl, ZO, ZO, ZO, ZO, ZO⟩
  exact (.cons rfl ZN (.cons rfl ZN .nil))
 refine Z0y ?_
 refine Z04 ?_
 refine Z04 ?_
 refine Z0d ?_
 refine Z01 (Z03 (Z00 (Zm (Zg (Z02 (Z01 ?_))))))
 refine Z0f ?_
 refine Z0l results135 rfl ?_
 refine ⟨_, rfl, ?_⟩
 have hx : x = 0 := by omega
 subst hx
 rw [Ma.blen_zero] at hbl
 exact ⟨by rw [hbl]; simp, rfl⟩
theorem smallR (v : Value) (l : List Int) (n d : Int) (hR : R16 l n) (hd : 1 ≤ d ∧ d ≤ 65535) (hL : l.length ≤ 1099511627776) (w : World) (hv : IV w v (ints .i64 l)) :
  Z0g P 139 [v, .int .i64 d] w fun r w' => ∃ v ls, r = .tuple #[v, .int .i64 (n % d)] ∧ R16 ls (n / d) ∧ Grow w w' [As.ri 3 .i64 v ls] := by
 refine Z0o func139 rfl ntmps139 rfl ?_
 have H0 := St.start w
 have hD := hR.d
 refine Z03 (Z00 (Zg (Zg (Z02 (Z01 (Z03 (Z00 (Zm ?_))))))))
 refine Z0C rfl rfl underlying64 rfl (by first | exact H0.iarg hv | assumption) ?_
 refine Z34 (m := l.length) (c := l.length) H0 rfl rfl underlying64 ti3 rfl rfl rfl ZO ZO ZO ZO ZO (fun v1_2 w1 H1 => ?_)
 refine Zg (Z02 (Z01 (Z03 (Z00 (Zg (Z02 (Z01 (Z03 (Z03 (Z00 (Zm ?_)))))))))))
 refine Z0C rfl rfl underlying64 rfl (by first | exact H1.io mem0 | exact H1.iarg hv | assumption) ?_
 refine Z0F rfl rfl rfl rfl (Z0h ZO) ?_
 refine Zg (Z02 (Z01 ?_))
 refine Zk [0, 1, 6, 7, 8] ?_
 refine Z0c ?_
 refine Z0v (ι := Nat × List Int × Int) (fun (z0 : Nat × List Int × Int) => match z0 with | ⟨k, o, q⟩ => k) (fun (z0 : Nat × List Int × Int) (w' : World) => match z0 with | ⟨k, o, q⟩ => St w w.heap.size Z0B ([As.ri 3 .i64 v1_2 o]) w' ∧ k ≤ l.length ∧ o.length = l.length ∧ D16 o ∧ 0 ≤ q ∧ q < d ∧ rv (o.drop k) * d + q = rv (l.drop k)) (fun (z0 : Nat × List Int × Int) => match z0 with | ⟨k, o, q⟩ => [(7, .int .i64 q), (8, .int .i64 ((k : Int) - 1))]) [0, 1, 6] (l.length, List.replicate l.length 0, 0) ?_ (.cons rfl (.cons rfl (.cons rfl .nil))) ?_ ?_
 ·refine ⟨?_, ZO, by simp, (fun y hy => by rw [List.eq_of_mem_replicate hy]; omega), ZO, ZO, by rw [List.drop_eq_nil_of_le (by simp), List.drop_eq_nil_of_le (Nat.le_refl _)]; simp [Ma.vb]⟩
  exact H1.cast (by rw [Z0U])
 ·exact (.cons rfl ZN (.cons rfl ZN .nil))
 rintro ⟨k, o, q⟩ w2 ⟨H2, hk, hol, hDo, hq0, hq1, hval⟩
 show RunC P _ _ _ (_ :: _) _
 refine Z03 (Z03 (Z00 (Zm ?_)))
 refine Zh ?_
 refine Z02 (Z01 ?_)
 (first | refine Z08 rfl ?_ ?_ | refine Z05 rfl ?_ ?_) <;> intro hc0
 ·refine Z09 (Z01 (Z03 (Z0c (Z03 (Z00 (Zm ?_))))))
  refine Z1m rfl rfl rfl rfl (Z0h ZO) ?_
  refine Zm (Zm ?_)
  refine Z0O (j := k - 1) rfl rfl rfl rfl underlying64 tz3 underlying3 rfl rfl (by first | exact H2.io mem0 | exact H2.iarg hv | assumption) ZA rfl ZO ZI (fun hb6_4 => ?_)
  refine Z0t rfl rfl rfl rfl (Z0h ZO) ?_
  refine Zg (Z02 (Z01 ?_))
  refine Zk [0, 1, 6, 7, 8] ?_
  refine Z03 (Z00 (Zm (Zm (Zm (Zm ?_)))))
  refine Z2W rfl rfl rfl rfl ZO (Z4x ZO) ?_
  refine Z1P (j := k - 1) rfl rfl underlying64 tz3 rfl rfl (by first | exact H2.io mem0 | exact H2.iarg hv | assumption) ZO ZI (fun A7_5 c7_5 hA7_5 => ?_)
  refine Z19 H2 .head hA7_5 rfl tz3 rfl rfl ZI (fun w3 H3 => ?_)
  refine Z02 (Z01 (Z00 (Zm (Zm ?_))))
  refine Z2x rfl rfl rfl rfl ZO (Z2P ZO) ?_
  refine Zg (Z02 ?_)
  refine Z0z ?_
  refine Z01 (Z00 (Zm ?_))
  refine Z0F rfl rfl rfl rfl (Z0h ZO) ?_
  refine Zg (Z02 ?_)
  refine Z0j (i := (k, o, q)) (k - 1, o.set (k - 1) ((q * 65536 + l.getD (k - 1) 0) / d), (q * 65536 + l.getD (k - 1) 0) % d) ?_ ?_ (.cons rfl (.cons rfl (.cons rfl .nil))) ?_
  ·first | omega | (simp; omega)
  ·have g1 : 0 ≤ (q * 65536 + l.getD (k - 1) 0) / d := Int.ediv_nonneg ZO ZO
   have g2 : (q * 65536 + l.getD (k - 1) 0) / d < 65536 := Int.ediv_lt_of_lt_mul ZO ZO
   have g3 := Int.emod_nonneg (q * 65536 + l.getD (k - 1) 0) (show d ≠ 0 by omega)
   have g4 := Int.emod_lt_of_pos (q * 65536 + l.getD (k - 1) 0) (show 0 < d by omega)
   refine ⟨H3, ZO, by simpa using hol, fun y hy => (List.mem_or_eq_of_mem_set hy).elim (hDo y) (fun e => by rw [e]; omega), g3, g4, ?_⟩
   have h1 := Ma.vb_drop 65536 (l := l) (k := k - 1) ZO
   have h2 := Ma.vb_drop 65536 (l := o.set (k - 1) ((q * 65536 + l.getD (k - 1) 0) / d)) (k := k - 1) (by simp; omega)
   rw [show k - 1 + 1 = k from by omega] at h1 h2
   have hds : (o.set (k - 1) ((q * 65536 + l.getD (k - 1) 0) / d)).drop k = o.drop k := List.drop_set_of_lt ZO
   rw [hds] at h2
   have h3 : (o.set (k - 1) ((q * 65536 + l.getD (k - 1) 0) / d)).getD (k - 1) 0 = (q * 65536 + l.getD (k - 1) 0) / d := by simp [List.getD, show k - 1 < o.length by omega]
   rw [h3] at h2
   show Ma.vb _ _ * d + _ = Ma.vb _ _
   rw [h1, h2]
   exact Ma.quo_step ZO ZO hval
  exact (.cons rfl ZN (.cons rfl ZN .nil))
 refine Z0y ?_
 refine Z04 ?_
 refine Z04 ?_
 refine Z0d ?_
 refine Z01 ?_
 refine Zk [6, 7] ?_
 refine Z03 (Z00 ?_)
 have hk0 : k = 0 := by omega
 subst hk0
 simp only [List.drop_zero] at hval
 refine Zm ?_
 refine Zc func79 (Z3u hDo ZO (H2.io mem0)) ?_
 rintro _ w4 ⟨v', rfl, hT, _⟩
 have H4 := hT _ _ _ _ _ .head H2
 refine Zm (Zg (Zg (Z02 (Z01 ?_))))
 refine Z0f ?_
 refine Z0x results139 rfl rfl ?_
 refine ⟨_, rfl, ?_⟩
 have hn : rv o * d + q = n := hval.trans hR.val
 have e1 : n / d = rv o := by rw [← hn, Int.add_comm, Int.add_mul_ediv_right _ _ ZO, Int.ediv_eq_zero_of_lt hq0 hq1, Int.zero_add]
 have e2 : n % d = q := by rw [← hn, Int.add_comm, Int.add_mul_emod_self_right, Int.emod_eq_of_lt hq0 hq1]
 refine ⟨_, _, by rw [e2], ?_, H4.grows⟩
 rw [e1]
 exact Ma.Cn.of_tr hDo.dg rfl
theorem Z5i (a b : Value) (la lb : List Int) (na nb : Int) (hRa : R16 la na) (hRb : R16 lb nb) (hLa : la.length ≤ 1099511627776) (hLb : lb.length ≤ 1099511627776) (w : World) (ha : IV w a (ints .i64 la)) (hb : IV w b (ints .i64 lb)) :
  Z0g P 34 [a, b] w fun r w' => ∃ v ls, r = v ∧ R16 ls (na * nb) ∧ Grow w w' [As.ri 3 .i64 v ls] := by
 refine Z0o func34 rfl ntmps34 rfl ?_
 have H0 := St.start w
 have hDa := hRa.d
 have hDb := hRb.d
 refine Z03 (Z00 (Zg (Z02 (Z01 (Z03 (Z00 (Zm ?_)))))))
 refine Z0C rfl rfl underlying64 rfl (by first | exact H0.iarg ha | exact H0.iarg hb | assumption) ?_
 refine Zm ?_
 refine Z0C rfl rfl underlying64 rfl (by first | exact H0.iarg ha | exact H0.iarg hb | assumption) ?_
 refine Z0t rfl rfl rfl rfl (Z0h ZO) ?_
 refine Z34 (m := la.length + lb.length) (c := la.length + lb.length) H0 rfl rfl underlying64 ti3 rfl rfl rfl ZO ZO ZO ZO ZO (fun v1_5 w1 H1 => ?_)
 refine Zg (Z02 (Z01 (Z03 (Z03 (Z00 (Zg (Z02 (Z01 (Z0c ?_)))))))))
 refine Z0v (ι := Nat × List Int) (fun (z0 : Nat × List Int) => match z0 with | ⟨ii, o⟩ => la.length - ii) (fun (z0 : Nat × List Int) (w' : World) => match z0 with | ⟨ii, o⟩ => St w w.heap.size Z0B ([As.ri 3 .i64 v1_5 o]) w' ∧ ii ≤ la.length ∧ o.length = la.length + lb.length ∧ D16 o ∧ rv o = rv (la.take ii) * rv lb) (fun (z0 : Nat × List Int) => match z0 with | ⟨ii, o⟩ => [(6, .int .i64 (ii : Int))]) [0, 1, 5] (0, List.replicate (la.length + lb.length) 0) ?_ (.cons rfl (.cons rfl (.cons rfl .nil))) ?_ ?_
 ·refine ⟨?_, ZO, by simp, (fun y hy => by rw [List.eq_of_mem_replicate hy]; omega), by simp [Ma.vb, Ma.vb_zeros]⟩
  exact H1.cast (by rw [Z0U])
 ·exact (.cons rfl ZN .nil)
 rintro ⟨ii, o⟩ w2 ⟨H2, hi, hol, hDo, hval⟩
 show RunC P _ _ _ (_ :: _) _
 refine Z03 (Z03 (Z00 (Zm (Zm ?_))))
 refine Z0C rfl rfl underlying64 rfl (by first | exact H2.io mem0 | exact H2.iarg ha | exact H2.iarg hb | assumption) ?_
 refine Zl ?_
 refine Z02 (Z01 ?_)
 refine Zk [0, 1, 5, 6, 18] ?_
 (first | refine Z08 rfl ?_ ?_ | refine Z05 rfl ?_ ?_) <;> intro hc0
 ·refine Z09 (Z01 (Z03 (Z0c (Z03 (Z00 (Zg (Z02 (Z01 (Z03 (Z00 (Zg ?_)))))))))))
  refine Z02 (Z01 (Z0c ?_))
  refine Z0v (ι := Nat × List Int × Int) (fun (z0 : Nat × List Int × Int) => match z0 with | ⟨k, o', c⟩ => lb.length + 1 - k) (fun (z0 : Nat × List Int × Int) (w' : World) => match z0 with | ⟨k, o', c⟩ => St w w.heap.size Z0B ([As.ri 3 .i64 v1_5 o']) w' ∧ k ≤ lb.length + 1 ∧ o'.length = la.length + lb.length ∧ D16 o' ∧ 0 ≤ c ∧ c ≤ 65535 ∧ rv o' + 65536 ^ (ii + k) * c = rv (la.take ii) * rv lb + 65536 ^ ii * la.getD ii 0 * rv (lb.take k)) (fun (z0 : Nat × List Int × Int) => match z0 with | ⟨k, o', c⟩ => [(7, .int .i64 c), (8, .int .i64 (k : Int))]) [0, 1, 5, 6] (0, o, 0) ?_ (.cons rfl (.cons rfl (.cons rfl (.cons rfl .nil)))) ?_ ?_
  ·exact ⟨H2, ZO, hol, hDo, ZO, ZO, by rw [hval]; simp [Ma.vb]⟩
  ·exact (.cons rfl ZN (.cons rfl ZN .nil))
  rintro ⟨k, o', c⟩ w3 ⟨H3, hk, hol', hDo', hc1, hc2, hval'⟩
  show RunC P _ _ _ (_ :: _) _
  refine Z03 (Z03 (Z00 (Zm (Zm ?_))))
  refine Z0C rfl rfl underlying64 rfl (by first | exact H3.io mem0 | exact H3.iarg ha | exact H3.iarg hb | assumption) ?_
  refine Zl ?_
  refine Zm ?_
  apply l_or 2 [0, 1, 5, 6, 7, 8] rfl rfl (.cons rfl (.cons rfl (.cons rfl (.cons rfl (.cons rfl (.cons rfl (.cons rfl .nil))))))) rfl rfl (fun _ => rfl) rfl rfl rfl
  ·intro hg7_5
   refine Zm ?_
   refine Zw ?_
   refine Z02 ?_
   exact Z0n rfl (.cons rfl (ZF hg7_5) (.cons rfl rfl (.cons rfl rfl (.cons rfl rfl (.cons rfl rfl (.cons rfl rfl (.cons rfl rfl .nil)))))))
  refine Z02 (Z01 ?_)
  (first | refine Z08 rfl ?_ ?_ | refine Z05 rfl ?_ ?_) <;> intro hc1
  ·refine Z09 (Z01 ?_)
   refine Zk [0, 1, 5, 6, 7, 8] ?_
   refine Z03 (Z0c (Z03 (Z00 ?_)))
   have hkl : k ≤ lb.length := by
    rcases Nat.lt_or_ge k lb.length with h | h
    ·omega
    exact Ma.prod_room (show (1 : Int) < 65536 by omega) hRa.dg hRb.dg hDo'.rv_nonneg (show 0 < c by omega) hval' ZO
   have hga := Z3a hDa ii
   have hgb := Z3a hDb k
   have hgo := Z3a hDo' (ii + k)
   have hik : ii + k < la.length + lb.length := by
    rcases Nat.lt_or_ge k lb.length with h | h
    ·omega
    omega
   have hpr := Z1U (a := la.getD ii 0) (b := lb.getD k 0) (x := 65536) (y := 65536) ZO ZO
   refine Zm (Zm (Zm (Zm ?_)))
   refine Z0t rfl rfl rfl rfl (Z0h ZO) ?_
   refine Z0O (j := ii + k) rfl rfl rfl rfl underlying64 tz3 underlying3 rfl rfl (by first | exact H3.io mem0 | exact H3.iarg ha | exact H3.iarg hb | assumption) ZA rfl ZO ZI (fun hb9_5 => ?_)
   refine Z0t rfl rfl rfl rfl (Z0h ZO) ?_
   refine Zg (Z02 (Z01 ?_))
   refine Zk [0, 1, 5, 6, 7, 8] ?_
   refine Z0R (ι := Int) (fun (t : Int) (w' : World) => St w w.heap.size Z0B ([As.ri 3 .i64 v1_5 o']) w' ∧ t = c + o'.getD (ii + k) 0 + la.getD ii 0 * lb.getD k 0) (fun (t : Int) => [(7, .int .i64 t)]) [0, 1, 5, 6, 8] (.cons rfl (.cons rfl (.cons rfl (.cons rfl (.cons rfl .nil))))) ?_ ?_
   ·refine Z03 (Z00 (Zm (Zm ?_)))
    refine Z0C rfl rfl underlying64 rfl (by first | exact H3.io mem0 | exact H3.iarg ha | exact H3.iarg hb | assumption) ?_
    refine Zl ?_
    refine Z02 (Z01 ?_)
    (first | refine Z08 rfl ?_ ?_ | refine Z05 rfl ?_ ?_) <;> intro hc2
    ·refine Z2a ZK ZK ?_
     have H4 := H3.drewn
     refine Zm (Zm (Zm ?_))
     refine Z0O rfl rfl rfl rfl underlying64 tz3 underlying3 rfl rfl (by first | exact H4.io mem0 | exact H4.iarg ha | exact H4.iarg hb | assumption) ZA rfl rfl ZI (fun hb11_3 => ?_)
     refine Zm (Zm ?_)
     refine Z0O rfl rfl rfl rfl underlying64 tz3 underlying3 rfl rfl (by first | exact H4.io mem0 | exact H4.iarg ha | exact H4.iarg hb | assumption) ZA rfl rfl ZI (fun hb11_7 => ?_)
     refine Z1m rfl rfl rfl rfl (Z0h ZO) ?_
     refine Z0t rfl rfl rfl rfl (Z0h ZO) ?_
     refine Zg (Z02 ?_)
     refine Z0s (c + o'.getD (ii + k) 0 + la.getD ii 0 * lb.getD k 0) ?_ (.cons rfl (.cons rfl (.cons rfl (.cons rfl (.cons rfl .nil))))) ?_
     ·exact ⟨H4, rfl⟩
     exact (.cons rfl ZN .nil)
    refine Z09 ?_
    refine Z0s (c + o'.getD (ii + k) 0) ?_ (.cons rfl (.cons rfl (.cons rfl (.cons rfl (.cons rfl .nil))))) ?_
    ·exact ⟨H3, by rw [Z4H (l := lb) ZO]; simp⟩
    exact (.cons rfl ZN .nil)
   rintro t w5 ⟨H5, htv⟩
   show RunC P _ _ _ (_ :: _) _
   refine Z03 (Z00 (Zm (Zm (Zm ?_))))
   refine Z0t rfl rfl rfl rfl (Z0h ZO) ?_
   refine Zm ?_
   refine Z2x rfl rfl rfl rfl ZO (Z2P ZO) ?_
   refine Z1P (j := ii + k) rfl rfl underlying64 tz3 rfl rfl (by first | exact H5.io mem0 | exact H5.iarg ha | exact H5.iarg hb | assumption) ZO ZI (fun A12_6 c12_6 hA12_6 => ?_)
   refine Z19 H5 .head hA12_6 rfl tz3 rfl rfl ZI (fun w6 H6 => ?_)
   refine Z02 (Z01 ?_)
   refine Zk [0, 1, 5, 6, 7, 8] ?_
   refine Z00 (Zm ?_)
   refine Z2W rfl rfl rfl rfl ZO (Z4x ZO) ?_
   refine Zg (Z02 ?_)
   refine Z0z ?_
   refine Z01 (Z00 (Zm ?_))
   refine Z0t rfl rfl rfl rfl (Z0h ZO) ?_
   refine Zg (Z02 ?_)
   refine Z0j (i := (k, o', c)) (k + 1, o'.set (ii + k) (t % 65536), t / 65536) ?_ ?_ (.cons rfl (.cons rfl (.cons rfl (.cons rfl .nil)))) ?_
   ·first | omega | (simp; omega)
   ·refine ⟨H6, ZO, by simpa using hol', fun y hy => (List.mem_or_eq_of_mem_set hy).elim (hDo' y) (fun e => by rw [e]; omega), ZO, ZO, ?_⟩
    have h1 := Ma.vb_set_at 65536 o' (ii + k) (t % 65536) ZO
    have h2 := Ma.vb_take_succ 65536 lb k
    have h3 := Ma.prod_step (B := 65536) (p := 65536 ^ (ii + k)) (x := la.getD ii 0 * lb.getD k 0) ZO hval' (o'.getD (ii + k) 0) htv
    show Ma.vb _ _ + _ = _ + _ * Ma.vb _ _
    rw [h1, h2, ← Nat.add_assoc, Int.pow_succ, h3, Int.pow_add, Int.mul_add, ← Int.add_assoc]
    congr 1
    rw [Int.mul_assoc, Int.mul_assoc, Int.mul_left_comm (la.getD ii 0)]
   exact (.cons rfl ZN (.cons rfl ZN .nil))
  refine Z0y ?_
  refine Z04 ?_
  refine Z04 ?_
  refine Z0d ?_
  refine Z0z ?_
  refine Z01 (Z00 (Zm ?_))
  refine Z0t rfl rfl rfl rfl (Z0h ZO) ?_
  refine Zg (Z02 ?_)
  refine Z0j (i := (ii, o)) (ii + 1, o') ?_ ?_ (.cons rfl (.cons rfl (.cons rfl .nil))) ?_
  ·first | omega | (simp; omega)
  ·have hc0' : c = 0 := by omega
   rw [hc0', Int.mul_zero, Int.add_zero, List.take_of_length_le (show lb.length ≤ k by omega), ← Int.add_mul] at hval'
   refine ⟨H3, ZO, hol', hDo', ?_⟩
   show _ = Ma.vb _ _ * _
   rw [Ma.vb_take_succ]
   exact hval'
  exact (.cons rfl ZN .nil)
 refine Z0y ?_
 refine Z04 ?_
 refine Z04 ?_
 refine Z0d ?_
 refine Z01 ?_
 refine Zk [5] ?_
 refine Z03 (Z00 (Zm ?_))
 refine Zc func79 (Z3u hDo ZO (H2.io mem0)) ?_
 rintro _ w7 ⟨v', rfl, hT, _⟩
 have H7 := hT _ _ _ _ _ .head H2
 refine Zg (Z02 (Z01 ?_))
 refine Z0f ?_
 refine Z0l results34 rfl ?_
 refine ⟨_, rfl, ?_⟩
 rw [List.take_of_length_le ZO] at hval
 refine ⟨_, _, rfl, Ma.Cn.of_tr hDo.dg (hval.trans ?_), H7.grows⟩
 show Ma.vb 65536 la * Ma.vb 65536 lb = _
 rw [hRa.val, hRb.val]
def dig (r : Int) : UInt8 := UInt8.ofNat (48 + r.toNat)
theorem dig_toNat {r : Int} (h : 0 ≤ r ∧ r ≤ 9) : ((dig r).toNat : Int) = 48 + r := by
 have : (dig r).toNat = 48 + r.toNat := by
  unfold dig
  rw [UInt8.toNat_ofNat']
  omega
 omega
def dt0 (n : Nat) : List UInt8 := if h : n = 0 then [] else dt0 (n / 10) ++ [dig ((n % 10 : Nat) : Int)]
termination_by n
decreasing_by omega
theorem Z1X : dt0 0 = [] := by rw [dt0]; rfl
theorem Z3v {n : Int} (h : 0 < n) : dt0 n.toNat = dt0 (n / 10).toNat ++ [dig (n % 10)] := by
 rw [dt0, dif_neg (by omega)]
 rw [show n.toNat / 10 = (n / 10).toNat from by omega, show ((n.toNat % 10 : Nat) : Int) = n % 10 from by omega]
def dtx (n : Int) : List UInt8 := if n = 0 then [48] else dt0 n.toNat
def pv (l : List UInt8) : Int := l.foldl (fun a b => 10 * a + ((b.toNat : Int) - 48)) 0
theorem Z2A (l : List UInt8) {k : Nat} (h : k < l.length) : pv (l.take (k + 1)) = pv (l.take k) * 10 + (((l.getD k 0).toNat : Int) - 48) := by
 have e : l.take (k + 1) = l.take k ++ [l[k]] := by rw [List.take_succ_eq_append_getElem h]
 have e2 : l.getD k 0 = l[k] := by simp [List.getD, h]
 rw [e, e2, pv, List.foldl_append]
 show 10 * pv (l.take k) + _ = _
 omega
theorem isD.le {b : UInt8} (h : isD b) : 48 ≤ (b.toNat : Int) ∧ (b.toNat : Int) ≤ 57 := h
def Z3D (t : List UInt8) : Int × Int := if t = [] ∨ ¬ (∀ j, j < t.length → isD (t.getD j 0)) then (20, 0) else if 8192 < Ma.blen (pv t) then (21, 0) else (0, pv t)
theorem parsed_bad {t : List UInt8} (h : t = [] ∨ ∃ j, j < t.length ∧ ¬ isD (t.getD j 0)) : Z3D t = (20, 0) := if_pos (h.imp id fun ⟨j, hj, hd⟩ h => hd (h j hj))
theorem parsed_long {t : List UInt8} (h0 : t ≠ []) (h : ∀ j, j < t.length → isD (t.getD j 0)) (hl : 8192 < Ma.blen (pv t)) : Z3D t = (21, 0) := by
 unfold Z3D; rw [if_neg (fun h' => h'.elim h0 fun k => k h), if_pos hl]
theorem parsed_ok {t : List UInt8} (h0 : t ≠ []) (h : ∀ j, j < t.length → isD (t.getD j 0)) (hl : Ma.blen (pv t) ≤ 8192) : Z3D t = (0, pv t) := by
 unfold Z3D; rw [if_neg (fun h' => h'.elim h0 fun k => k h), if_neg (by omega)]
theorem R16.len {l : List Int} {n : Int} (h : R16 l n) {k : Nat} (hb : Ma.blen n ≤ k) : 16 * l.length ≤ k + 16 := by
 rcases Nat.eq_zero_or_pos l.length with h0 | h0
 ·omega
 have := Ma.blen_top (s := 16) h.dg h.tr h0
 rw [show ((2 : Int) ^ 16) = 65536 from rfl, h.val] at this
 have := Ma.blen_nonneg (l.getD (l.length - 1) 0)
 omega
theorem dt0_len : ∀ (k : Nat) (n : Int), 0 ≤ n → n.toNat ≤ k → ((dt0 n.toNat).length : Int) ≤ Ma.blen n
 | k, n, h, hk => by
  rcases Int.lt_or_eq_of_le h with h1 | h1
  ·rw [Z3v h1, List.length_append, Ma.blen_half h1]
   have hd : Ma.blen (n / 10) ≤ Ma.blen (n / 2) := Ma.blen_mono ZO ZO
   match k, hk with
   | 0, hk => omega
   | k + 1, hk =>
    have := dt0_len k (n / 10) ZO ZO
    simp only [List.length_cons, List.length_nil]
    omega
  subst h1
  have := Ma.blen_nonneg 0
  rw [show (0 : Int).toNat = 0 from rfl, Z1X]
  simpa using this
theorem R16.blen {l : List Int} {n : Int} (h : R16 l n) : Ma.blen n ≤ 16 * l.length := by
 have h1 := Ma.vb_lt (show (0 : Int) < 65536 by omega) h.dg
 rw [h.val, show (65536 : Int) = 2 ^ 16 from rfl, ← Int.pow_mul] at h1
 have := (Ma.blen_le_iff (h.nonneg ZO) (16 * l.length)).2 h1
 omega
theorem Z3b {n d : Int} (h : 0 ≤ n) (hd : 0 ≤ d ∧ d ≤ 9) : Ma.blen (n * 10 + d) ≤ Ma.blen n + 4 := by
 obtain ⟨k, hk⟩ := Int.eq_ofNat_of_zero_le (Ma.blen_nonneg n)
 have h1 := (Ma.blen_le_iff h k).1 ZO
 have := (Ma.blen_le_iff (show 0 ≤ n * 10 + d by omega) (k + 4)).2 (by rw [Int.pow_add]; omega)
 omega
theorem Z4a {n : Int} (h : 0 ≤ n) : Ma.blen (n * 10) ≤ Ma.blen n + 4 := by simpa using Z3b h (d := 0) (by omega)
theorem R16.len_num {l ls : List Int} (hU : U l) (h : R16 ls (nv l)) : ls.length ≤ 4 * l.length + 1 := by
 have h1 : nv l < _ := Ma.vb_lt (show (0 : Int) < 18446744073709551616 by omega) hU.dg
 rw [← p4] at h1
 rcases Nat.eq_zero_or_pos ls.length with h0 | h0
 ·omega
 have h2 := Ma.Tr.pos (show (0 : Int) < 65536 by omega) h.dg h.tr (by intro e; subst e; simp at h0)
 rw [h.val] at h2
 rcases Nat.lt_or_ge (4 * l.length) (ls.length - 1) with h3 | h3
 ·have := Ma.pow_mono (show (1 : Int) ≤ 65536 by omega) (show 4 * l.length ≤ ls.length - 1 by omega)
  omega
 omega
theorem R16.ten : R16 [10] 10 := ⟨fun x hx => by rw [List.mem_singleton.1 hx]; omega, ⟨fun _ => by omega, trivial⟩, by decide⟩
theorem U.one {x : Int} (h : 0 ≤ x ∧ x ≤ 18446744073709551615) : U [x] := fun y hy => by rw [List.mem_singleton.1 hy]; exact h
end Go.Proofs.YtjcbdogohjafdaaGreat.W
