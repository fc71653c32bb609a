/- walks of the reference's numbers of base 65536 -/
import Derived.Test.YtgfkagaacdblbaaGreatFa
set_option linter.unusedVariables false
set_option linter.unusedSimpArgs false
set_option maxRecDepth 10000
namespace Go.Proofs.YtgfkagaacdblbaaGreat.W
open Go.Vc Go.RowKit Tryz
abbrev D16 (l : List Int) : Prop := Rg 0 65535 l
theorem D16.dg {l : List Int} (h : D16 l) : Ma.Dg 65536 l := fun x hx => by have := h x hx; omega
theorem D16.of_dg {l : List Int} (h : Ma.Dg 65536 l) : D16 l := fun x hx => by have := h x hx; omega
abbrev rv (l : List Int) : Int := Ma.vb 65536 l
theorem D16.rv_nonneg {l : List Int} (h : D16 l) : 0 ≤ rv l := Ma.vb_nonneg (by omega) h.dg
theorem D16.append {l m : List Int} (h : D16 l) (k : D16 m) : D16 (l ++ m) := fun y hy => (List.mem_append.1 hy).elim (h y) (k y)
theorem D16.one {x : Int} (h : 0 ≤ x ∧ x ≤ 65535) : D16 [x] := fun y hy => by rw [List.mem_singleton.1 hy]; exact h
theorem D16.snoc {l : List Int} (h : D16 l) {x : Int} (hx : 0 ≤ x ∧ x ≤ 65535) : D16 (l ++ [x]) := h.append (D16.one hx)
theorem D16.nil : D16 [] := fun _ h => by cases h
theorem D16.tr {l : List Int} (h : D16 l) : D16 (Ma.tr l) := D16.of_dg h.dg.tr
theorem Z3W {l : List Int} {k : Nat} (h : l.length ≤ k) : l.getD k 0 = 0 := by simp [List.getD, h]
theorem rv_snoc (l : List Int) (x : Int) : rv (l ++ [x]) = rv l + 65536 ^ l.length * x := by simp [Ma.vb_append, Ma.vb]
theorem Z1N {l : List Int} (h : D16 l) (j : Nat) : 0 ≤ l.getD j 0 ∧ l.getD j 0 ≤ 65535 := by
 rcases Nat.lt_or_ge j l.length with hj | hj
 ·exact h.get hj
 simp [List.getD, hj]
abbrev R16 (l : List Int) (n : Int) : Prop := Ma.Cn 65536 l n
theorem R16.d {l : List Int} {n : Int} (h : R16 l n) : D16 l := D16.of_dg h.dg
theorem trimR (A : Option Addr) (c : Nat) (l : List Int) (hD : D16 l) (hL : l.length ≤ 17592186044416) (w : World) (hv : IV w (.slice A (ints .i64 l).length c) (ints .i64 l)) :
  Z0f P 87 [.slice A (ints .i64 l).length c] w fun r w' => r = .slice A (Ma.tr l).length c ∧ w = w' := by
 refine Z0o func87 rfl ntmps87 rfl ?_
 refine Z03 (Z00 (Zg (Z01 (Z02 ?_))))
 refine Zk [0] ?_
 refine Z03 (Z00 (Zm ?_))
 refine Z0u rfl rfl underlying34 rfl (by first | exact hv | assumption) ?_
 refine Zg (Z01 (Z02 ?_))
 refine Zk [0, 3] ?_
 refine Z03 (Z0d ?_)
 refine Z0z (ι := Nat) (fun (k : Nat) => k) (fun (k : Nat) (w' : World) => w = w' ∧ k ≤ l.length ∧ ∀ j, k ≤ j → l.getD j 0 = 0) (fun (k : Nat) => [(3, .int .i64 (k : Int))]) [0] (l.length) ?_ (.cons rfl .nil) ?_ ?_
 ·exact ⟨rfl, Nat.le_refl _, fun j hj => by simp [List.getD, hj]⟩
 ·exact (.cons rfl ZN .nil)
 rintro k _ ⟨rfl, hk, hz⟩
 show RunC P _ _ _ (_ :: _) _
 refine Z03 (Z03 (Z00 (Zm ?_)))
 refine Zw ?_
 refine Zm ?_
 apply Z47 6 [0, 3] rfl rfl (.cons rfl (.cons rfl (.cons rfl .nil))) rfl rfl (fun _ => rfl) rfl rfl rfl
 ·intro hg2_3
  refine Zm (Zm ?_)
  refine Z0W rfl rfl rfl rfl (Z0l ZO) ?_
  refine Z0T (j := k - 1) rfl rfl rfl rfl underlying34 tz3 underlying3 rfl rfl (by first | exact hv | assumption) ZA rfl ZO ZI (fun hb2_6 => ?_)
  refine Ze ?_
  refine Z01 ?_
  exact Z0O rfl (.cons rfl (ZT hg2_3) (.cons rfl rfl (.cons rfl rfl .nil)))
 refine Z01 (Z02 ?_)
 refine Zk [0, 3, 15] ?_
 (first | refine Z0c rfl ?_ ?_ | refine Z08 rfl ?_ ?_) <;> intro hc0
 ·refine Z0a (Z02 ?_)
  refine Zk [0, 3] ?_
  refine Z0d (Z00 (Zm ?_))
  refine Z0W rfl rfl rfl rfl (Z0l ZO) ?_
  refine Zg (Z01 ?_)
  refine Z0F ?_
  refine Z0p (i := (k)) (k - 1) ?_ ?_ (.cons rfl .nil) ?_
  ·first | omega | (simp; omega)
  ·refine ⟨rfl, ZO, fun j hj => ?_⟩
   rcases Nat.lt_or_ge j k with h | h
   ·obtain rfl : j = k - 1 := by omega
    exact hc0.2
   exact hz j h
  exact (.cons rfl ZN .nil)
 refine Z0H ?_
 refine Z06 ?_
 refine Z06 ?_
 refine Z0h ?_
 refine Z02 ?_
 refine Zk [0, 3] ?_
 refine Z03 (Z00 (Zm (Zm ?_)))
 refine v_head (h := k) rfl rfl underlying34 tz3 rfl rfl (by first | exact hv | assumption) ZP ZI (fun A4_2 c4_2 h4_2 => ?_)
 injection h4_2 with e1 e2 e3
 subst e1 e3
 refine Zg (Z01 (Z02 ?_))
 refine Zk [2] ?_
 refine Z0i ?_
 refine Z0e results87 rfl ?_
 refine ⟨_, rfl, ?_⟩
 refine ⟨?_, rfl⟩
 rw [Ma.tr_len_unique hk hz (fun h e => hc0 ⟨ZO, e⟩)]
theorem Z32 {v : Value} {l : List Int} (hD : D16 l) (hL : l.length ≤ 17592186044416) {w : World} (hv : IV w v (ints .i64 l)) : Z0f P 87 [v] w fun r w' => ∃ v', r = v' ∧ Turn w w' (As.ri 3 .i64 v l) (As.ri 3 .i64 v' (Ma.tr l)) ∧ IV w' v' (ints .i64 (Ma.tr l)) := by
 obtain ⟨A, c, rfl, hc, hs⟩ := hv
 have hv : IV w (.slice A (ints .i64 l).length c) (ints .i64 l) := ⟨A, c, rfl, hc, hs⟩
 refine (trimR A c l hD hL w hv).mono ?_
 rintro r _ ⟨rfl, rfl⟩
 have h := Ma.tr_take l
 have e : ints .i64 (Ma.tr l) = (ints .i64 l).take (Ma.tr l).length := by rw [← List.map_take, ← h.1]
 have hl : (Ma.tr l).length ≤ (ints .i64 l).length := by simpa using h.2.1
 refine ⟨_, rfl, fun w0 B M σ σ' u hw => ?_, ?_⟩
 ·unfold As.ri at u
  rw [e] at u
  exact hw.head u hl
 rw [e]; exact hv.head hl
theorem p4 (k : Nat) : (65536 : Int) ^ (4 * k) = 18446744073709551616 ^ k := by rw [Int.pow_mul]; rfl
def word (l : List Int) (i k : Nat) : Int := Ma.vb 65536 ((l.drop (i + k)).take (4 - k))
theorem word_four (l : List Int) (i : Nat) : word l i 4 = 0 := by simp [word, Ma.vb]
theorem word_in {l : List Int} {i k : Nat} (h0 : 0 < k) (h4 : k ≤ 4) (h : i + (k - 1) < l.length) : word l i (k - 1) = word l i k * 65536 + l.getD (i + (k - 1)) 0 := by
 obtain ⟨k, rfl⟩ : ∃ m, k = m + 1 := ⟨k - 1, ZO⟩
 have e : l.getD (i + k) 0 = l[i + k] := by simp [List.getD, show i + k < l.length from h]
 show Ma.vb 65536 ((l.drop (i + k)).take (4 - k)) = Ma.vb 65536 ((l.drop (i + (k + 1))).take (4 - (k + 1))) * 65536 + l.getD (i + k) 0
 rw [e, List.drop_eq_getElem_cons (show i + k < l.length from h), show 4 - k = (4 - (k + 1)) + 1 from by omega, List.take_succ_cons, Ma.vb]
 rw [Int.mul_comm 65536, show i + (k + 1) = i + k + 1 from rfl]; omega
theorem word_out {l : List Int} {i k : Nat} (h0 : 0 < k) (h : l.length ≤ i + (k - 1)) : word l i (k - 1) = word l i k * 65536 := by
 unfold word
 rw [List.drop_eq_nil_of_le h, List.drop_eq_nil_of_le (show l.length ≤ i + k by omega)]
 simp [Ma.vb]
theorem word_take (l : List Int) {i : Nat} (h : i ≤ l.length) : rv (l.take (i + 4)) = rv (l.take i) + 65536 ^ i * word l i 0 := by
 show Ma.vb _ _ = _
 rw [List.take_add, Ma.vb_append, List.length_take, Nat.min_eq_left h]
 rfl
theorem wordsR (v : Value) (l : List Int) (n : Int) (hR : R16 l n) (hL : l.length ≤ 17592186044416) (w : World) (hv : IV w v (ints .i64 l)) :
  Z0f P 82 [v] w fun r w' => ∃ v ls, r = v ∧ Ma.Cn 18446744073709551616 ls n ∧ Grow w w' [As.ri 83 .u64 v ls] := by
 refine Z0o func82 rfl ntmps82 rfl ?_
 have H0 := St.start w
 have hD := hR.d
 refine Z03 (Z00 (Zg (Z01 (Z02 ?_))))
 refine Zk [0] ?_
 refine Z03 (Z00 (Zg (Z01 (Z02 (Z03 (Z03 (Z00 (Zg (Z01 (Z02 (Z0d ?_)))))))))))
 refine Z0z (ι := Nat × List Int × Value) (fun (z0 : Nat × List Int × Value) => match z0 with | ⟨k, o, vo⟩ => l.length + 4 - 4 * k) (fun (z0 : Nat × List Int × Value) (w' : World) => match z0 with | ⟨k, o, vo⟩ => St w w.heap.size Z0J ([As.ri 83 .u64 vo o]) w' ∧ 4 * k ≤ l.length + 3 ∧ o.length = k ∧ Rg 0 18446744073709551615 o ∧ Ma.vb 18446744073709551616 o = rv (l.take (4 * k))) (fun (z0 : Nat × List Int × Value) => match z0 with | ⟨k, o, vo⟩ => [(3, vo), (4, .int .i64 ((4 * k : Nat) : Int))]) [0] (0, [], .slice none 0 0) ?_ (.cons rfl .nil) ?_ ?_
 ·exact ⟨H0.nil 83, ZO, rfl, (fun _ h => by cases h), by simp [Ma.vb]⟩
 ·exact (.cons rfl ZN (.cons rfl ZN .nil))
 rintro ⟨k, o, vo⟩ w1 ⟨H1, hk, hol, hUo, hvo⟩
 show RunC P _ _ _ (_ :: _) _
 refine Z03 (Z03 (Z00 (Zm (Zm ?_))))
 refine Z0u rfl rfl underlying34 rfl (by first | exact H1.io mem0 | exact H1.iarg hv | assumption) ?_
 refine Zl ?_
 refine Z01 (Z02 ?_)
 refine Zk [0, 3, 4, 10] ?_
 (first | refine Z0c rfl ?_ ?_ | refine Z08 rfl ?_ ?_) <;> intro hc0
 ·refine Z0a (Z02 ?_)
  refine Zk [0, 3, 4] ?_
  refine Z03 (Z0d (Z03 (Z00 (Zg (Z01 (Z02 (Z03 (Z03 (Z00 (Zg (Z01 ?_)))))))))))
  refine Z02 (Z0d ?_)
  refine Z0z (ι := Nat × Int) (fun (z0 : Nat × Int) => match z0 with | ⟨kk, ww⟩ => kk) (fun (z0 : Nat × Int) (w' : World) => match z0 with | ⟨kk, ww⟩ => St w w.heap.size Z0J ([As.ri 83 .u64 vo o]) w' ∧ kk ≤ 4 ∧ 0 ≤ ww ∧ (kk = 4 → ww = 0) ∧ (kk = 3 → ww ≤ 65535) ∧ (kk = 2 → ww ≤ 4294967295) ∧ (kk = 1 → ww ≤ 281474976710655) ∧ (kk = 0 → ww ≤ 18446744073709551615) ∧ ww = word l (4 * k) kk) (fun (z0 : Nat × Int) => match z0 with | ⟨kk, ww⟩ => [(5, .int .u64 ww), (6, .int .i64 ((kk : Int) - 1))]) [0, 3, 4] (4, 0) ?_ (.cons rfl (.cons rfl (.cons rfl .nil))) ?_ ?_
  ·exact ⟨H1, ZO, ZO, ZO, ZO, ZO, ZO, ZO, (word_four l _).symm⟩
  ·exact (.cons rfl ZN (.cons rfl ZN .nil))
  rintro ⟨kk, ww⟩ w2 ⟨H2, hkk, hww, hb4, hb3, hb2, hb1, hb0, hval⟩
  show RunC P _ _ _ (_ :: _) _
  have hkk0 : kk = 0 ∨ kk = 1 ∨ kk = 2 ∨ kk = 3 ∨ kk = 4 := by omega
  have H64 : 0 < kk → ww * 65536 ≤ 18446744073709486080 := by omega
  refine Z03 (Z03 (Z00 (Zm ?_)))
  refine Zh ?_
  refine Z01 (Z02 ?_)
  refine Zk [0, 3, 4, 5, 6, 14] ?_
  (first | refine Z0c rfl ?_ ?_ | refine Z08 rfl ?_ ?_) <;> intro hc1
  ·refine Z0a (Z02 ?_)
   refine Zk [0, 3, 4, 5, 6] ?_
   refine Z03 (Z0d (Z03 (Z00 (Zm ?_))))
   refine Z20 rfl rfl rfl rfl (Z1p ZO) ?_
   refine Zg (Z01 (Z02 ?_))
   refine Zk [0, 3, 4, 5, 6] ?_
   refine Z03 (Z00 (Zm (Zm ?_)))
   refine Z0y rfl rfl rfl rfl (Z0l ZO) ?_
   refine Zm ?_
   refine Z0u rfl rfl underlying34 rfl (by first | exact H2.io mem0 | exact H2.iarg hv | assumption) ?_
   refine Zl ?_
   refine Z01 (Z02 ?_)
   refine Zk [0, 3, 4, 5, 6, 24] ?_
   (first | refine Z0c rfl ?_ ?_ | refine Z08 rfl ?_ ?_) <;> intro hc2
   ·refine Z00 (Zm (Zm (Zm (Zm ?_))))
    refine Z0y rfl rfl rfl rfl (Z0l ZO) ?_
    refine Z0T (j := 4 * k + (kk - 1)) rfl rfl rfl rfl underlying34 tz3 underlying3 rfl rfl (by first | exact H2.io mem0 | exact H2.iarg hv | assumption) ZA rfl ZO ZI (fun hb11_5 => ?_)
    refine l_conv rfl rfl underlying3 underlying83 rfl (Z1p ZO) ?_
    refine Z0y rfl rfl rfl rfl (Z1p ZO) ?_
    refine Zg (Z01 ?_)
    refine Z0F ?_
    refine Z02 ?_
    refine Zk [0, 3, 4, 5, 6] ?_
    refine Z00 (Zm ?_)
    refine Z0W rfl rfl rfl rfl (Z0l ZO) ?_
    refine Zg (Z01 ?_)
    refine Z0p (i := (kk, ww)) (kk - 1, ww * 65536 + l.getD (4 * k + (kk - 1)) 0) ?_ ?_ (.cons rfl (.cons rfl (.cons rfl .nil))) ?_
    ·first | omega | (simp; omega)
    ·exact ⟨H2, ZO, ZO, ZO, ZO, ZO, ZO, ZO, by rw [word_in ZO hkk ZO, hval]⟩
    exact (.cons rfl ZN (.cons rfl ZN .nil))
   refine Z0a ?_
   refine Z0F ?_
   refine Z02 ?_
   refine Zk [0, 3, 4, 5, 6] ?_
   refine Z00 (Zm ?_)
   refine Z0W rfl rfl rfl rfl (Z0l ZO) ?_
   refine Zg (Z01 ?_)
   refine Z0p (i := (kk, ww)) (kk - 1, ww * 65536) ?_ ?_ (.cons rfl (.cons rfl (.cons rfl .nil))) ?_
   ·first | omega | (simp; omega)
   ·exact ⟨H2, ZO, ZO, ZO, ZO, ZO, ZO, ZO, by rw [word_out ZO ZO, hval]⟩
   exact (.cons rfl ZN (.cons rfl ZN .nil))
  refine Z0H ?_
  refine Z06 ?_
  refine Z06 ?_
  refine Z0h ?_
  refine Z02 ?_
  refine Zk [0, 3, 4, 5] ?_
  refine Z00 (Zm (Zm ?_))
  refine Z2g H2 rfl rfl underlying127 ti83 rfl (.cons rfl ZR .nil) rfl rfl rfl (fun b12_2 w3 H3 => ?_)
  refine Z46 H3 rfl rfl underlying127 ti83 rfl rfl rfl rfl (by first | (simp [Value.oneCell']; done) | (intro u hu; rw [List.mem_singleton.1 hu]; assumption)) (by first | (simp; done) | (simp; omega)) (by first | (simp; done) | (simp; omega)) (fun v12_3 w4 H4 => ?_)
  refine Zg (Z01 ?_)
  refine Z0F ?_
  refine Z02 ?_
  refine Zk [0, 3, 4] ?_
  refine Z00 (Zm ?_)
  refine Z0y rfl rfl rfl rfl (Z0l ZO) ?_
  refine Zg (Z01 ?_)
  refine Z0p (i := (k, o, vo)) (k + 1, o ++ [ww], v12_3) ?_ ?_ (.cons rfl .nil) ?_
  ·first | omega | (simp; omega)
  ·have hkk : kk = 0 := by omega
   subst hkk
   refine ⟨H4.cast (by rw [Z3s]), ZO, by simp; omega, fun y hy => (List.mem_append.1 hy).elim (hUo y) (fun h => by rw [List.mem_singleton.1 h]; omega), ?_⟩
   rw [Ma.vb_append, hvo, hol, ← p4]
   have e := word_take l (i := 4 * k) ZO
   simp only [Ma.vb, Int.mul_zero, Int.add_zero]
   rw [show 4 * (k + 1) = 4 * k + 4 from by omega, e, hval]
  exact (.cons rfl ZN (.cons rfl ZN .nil))
 refine Z0H ?_
 refine Z06 ?_
 refine Z06 ?_
 refine Z0h ?_
 refine Z02 ?_
 refine Zk [3] ?_
 refine Z03 (Z00 (Zm (Zg (Z01 (Z02 ?_)))))
 refine Zk [2] ?_
 refine Z0i ?_
 refine Z0e results82 rfl ?_
 refine ⟨_, rfl, ?_⟩
 refine ⟨_, _, rfl, ?_, H1.grows⟩
 rw [List.take_of_length_le ZO] at hvo
 have hn : Ma.vb 18446744073709551616 o = n := hvo.trans hR.val
 refine ⟨fun x hx => by have := hUo x hx; omega, Ma.Tr.of_ge (show (1 : Int) < 18446744073709551616 by omega) (fun x hx => by have := hUo x hx; omega) fun hne => ?_, hn⟩
 rw [hvo, hol, ← p4]
 have hp := Ma.Tr.pos (show (0 : Int) < 65536 by omega) hR.dg hR.tr (by intro e; subst e; simp at hc0; apply hne; exact List.eq_nil_of_length_eq_zero (by simp at hk; omega))
 have hpm : (65536 : Int) ^ (4 * (k - 1)) ≤ 65536 ^ (l.length - 1) := Ma.pow_mono ZO ZO
 exact Int.le_trans hpm hp
theorem sumR (a b : Value) (la lb : List Int) (na nb : Int) (hRa : R16 la na) (hRb : R16 lb nb) (hLa : la.length ≤ 1099511627776) (hLb : lb.length ≤ 1099511627776) (w : World) (ha : IV w a (ints .i64 la)) (hb : IV w b (ints .i64 lb)) :
  Z0f P 75 [a, b] w fun r w' => ∃ v ls, r = v ∧ R16 ls (na + nb) ∧ Grow w w' [As.ri 3 .i64 v ls] := by
 refine Z0o func75 rfl ntmps75 rfl ?_
 have H0 := St.start w
 have hDa := hRa.d
 have hDb := hRb.d
 refine Z03 (Z00 (Zg (Z01 (Z02 ?_))))
 refine Zk [0, 1] ?_
 refine Z03 (Z00 (Zg (Z01 (Z02 (Z03 (Z00 (Zg (Z01 (Z02 (Z03 (Z03 ?_)))))))))))
 refine Z00 (Zg (Z01 (Z02 (Z0d ?_))))
 refine Z0z (ι := Nat × List Int × Int × Value) (fun (z0 : Nat × List Int × Int × Value) => match z0 with | ⟨k, o, c, vo⟩ => max la.length lb.length + 1 - k) (fun (z0 : Nat × List Int × Int × Value) (w' : World) => match z0 with | ⟨k, o, c, vo⟩ => St w w.heap.size Z0J ([As.ri 3 .i64 vo o]) w' ∧ k ≤ max la.length lb.length + 1 ∧ o.length = k ∧ D16 o ∧ 0 ≤ c ∧ c ≤ 1 ∧ (k = max la.length lb.length + 1 → c = 0 ∧ 65536 ^ (max la.length lb.length) ≤ rv o) ∧ rv o + 65536 ^ k * c = rv (la.take k) + rv (lb.take k)) (fun (z0 : Nat × List Int × Int × Value) => match z0 with | ⟨k, o, c, vo⟩ => [(5, vo), (6, .int .i64 c), (7, .int .i64 (k : Int))]) [0, 1] (0, [], 0, .slice none 0 0) ?_ (.cons rfl (.cons rfl .nil)) ?_ ?_
 ·exact ⟨H0.nil 3, ZO, rfl, D16.nil, ZO, ZO, (fun h => by omega), by simp [Ma.vb]⟩
 ·exact (.cons rfl ZN (.cons rfl ZN (.cons rfl ZN .nil)))
 rintro ⟨k, o, c, vo⟩ w1 ⟨H1, hk, hol, hDo, hc1, hc2, hlast, hval⟩
 show RunC P _ _ _ (_ :: _) _
 refine Z03 (Z03 (Z00 (Zm (Zm ?_))))
 refine Z0u rfl rfl underlying34 rfl (by first | exact H1.io mem0 | exact H1.iarg ha | exact H1.iarg hb | assumption) ?_
 refine Zl ?_
 refine Zm ?_
 apply l_or 4 [0, 1, 5, 6, 7] rfl rfl (.cons rfl (.cons rfl (.cons rfl (.cons rfl (.cons rfl (.cons rfl .nil)))))) rfl rfl (fun _ => rfl) rfl rfl rfl
 ·intro hg4_5
  refine Zm (Zm ?_)
  refine Z0u rfl rfl underlying34 rfl (by first | exact H1.io mem0 | exact H1.iarg ha | exact H1.iarg hb | assumption) ?_
  refine Zl ?_
  refine Z01 ?_
  exact Z0O rfl (.cons rfl (ZF hg4_5) (.cons rfl rfl (.cons rfl rfl (.cons rfl rfl (.cons rfl rfl (.cons rfl rfl .nil))))))
 refine Zm ?_
 apply l_or 2 [0, 1, 5, 6, 7] rfl rfl (.cons rfl (.cons rfl (.cons rfl (.cons rfl (.cons rfl (.cons rfl .nil)))))) rfl rfl (fun _ => rfl) rfl rfl rfl
 ·intro hg4_11
  refine Zm ?_
  refine Zw ?_
  refine Z01 ?_
  exact Z0O rfl (.cons rfl (ZF hg4_11) (.cons rfl rfl (.cons rfl rfl (.cons rfl rfl (.cons rfl rfl (.cons rfl rfl .nil))))))
 refine Z01 (Z02 ?_)
 refine Zk [0, 1, 5, 6, 7, 21] ?_
 (first | refine Z0c rfl ?_ ?_ | refine Z08 rfl ?_ ?_) <;> intro hc0
 ·refine Z0a (Z02 ?_)
  refine Zk [0, 1, 5, 6, 7] ?_
  refine Z03 (Z0d ?_)
  refine Z1q (ι := Int) (fun (c1 : Int) (w' : World) => St w w.heap.size Z0J ([As.ri 3 .i64 vo o]) w' ∧ c1 = c + la.getD k 0) (fun (c1 : Int) => [(6, .int .i64 c1)]) [0, 1, 5, 7] (.cons rfl (.cons rfl (.cons rfl (.cons rfl .nil)))) ?_ ?_
  ·refine Z03 (Z00 (Zm (Zm ?_)))
   refine Z0u rfl rfl underlying34 rfl (by first | exact H1.io mem0 | exact H1.iarg ha | exact H1.iarg hb | assumption) ?_
   refine Zl ?_
   refine Z01 (Z02 ?_)
   refine Zk [0, 1, 5, 6, 7, 27] ?_
   (first | refine Z0c rfl ?_ ?_ | refine Z08 rfl ?_ ?_) <;> intro hc1
   ·refine Z00 (Zm (Zm (Zm ?_)))
    refine Z0T rfl rfl rfl rfl underlying34 tz3 underlying3 rfl rfl (by first | exact H1.io mem0 | exact H1.iarg ha | exact H1.iarg hb | assumption) ZA rfl rfl ZI (fun hb7_3 => ?_)
    refine Z0y rfl rfl rfl rfl (Z0l ZO) ?_
    refine Zg (Z01 ?_)
    refine Z0w (c + la.getD k 0) ?_ (.cons rfl (.cons rfl (.cons rfl (.cons rfl .nil)))) ?_
    ·exact ⟨H1, rfl⟩
    exact (.cons rfl ZN .nil)
   refine Z0a ?_
   refine Z0w (c) ?_ (.cons rfl (.cons rfl (.cons rfl (.cons rfl .nil)))) ?_
   ·exact ⟨H1, by rw [Z3W ZO]; omega⟩
   exact (.cons rfl ZN .nil)
  rintro c1 w2 ⟨H2, hc1v⟩
  show RunC P _ _ _ (_ :: _) _
  refine Z1q (ι := Int) (fun (c2 : Int) (w' : World) => St w w.heap.size Z0J ([As.ri 3 .i64 vo o]) w' ∧ c2 = c + la.getD k 0 + lb.getD k 0) (fun (c2 : Int) => [(6, .int .i64 c2)]) [0, 1, 5, 7] (.cons rfl (.cons rfl (.cons rfl (.cons rfl .nil)))) ?_ ?_
  ·refine Z03 (Z00 ?_)
   have ga := Z1N hDa k
   refine Zm (Zm ?_)
   refine Z0u rfl rfl underlying34 rfl (by first | exact H2.io mem0 | exact H2.iarg ha | exact H2.iarg hb | assumption) ?_
   refine Zl ?_
   refine Z01 (Z02 ?_)
   refine Zk [0, 1, 5, 6, 7, 37] ?_
   (first | refine Z0c rfl ?_ ?_ | refine Z08 rfl ?_ ?_) <;> intro hc2
   ·refine Z00 ?_
    have gb := Z1N hDb k
    refine Zm (Zm (Zm ?_))
    refine Z0T rfl rfl rfl rfl underlying34 tz3 underlying3 rfl rfl (by first | exact H2.io mem0 | exact H2.iarg ha | exact H2.iarg hb | assumption) ZA rfl rfl ZI (fun hb9_3 => ?_)
    refine Z0y rfl rfl rfl rfl (Z0l ZO) ?_
    refine Zg (Z01 ?_)
    refine Z0w (c1 + lb.getD k 0) ?_ (.cons rfl (.cons rfl (.cons rfl (.cons rfl .nil)))) ?_
    ·exact ⟨H2, ZO⟩
    exact (.cons rfl ZN .nil)
   refine Z0a ?_
   refine Z0w (c1) ?_ (.cons rfl (.cons rfl (.cons rfl (.cons rfl .nil)))) ?_
   ·exact ⟨H2, by rw [Z3W (l := lb) ZO]; omega⟩
   exact (.cons rfl ZN .nil)
  rintro c2 w3 ⟨H3, hc2v⟩
  show RunC P _ _ _ (_ :: _) _
  refine Z03 (Z00 ?_)
  have ga := Z1N hDa k
  have gb := Z1N hDb k
  refine Zm (Zm ?_)
  refine Z2e rfl rfl rfl rfl ZO (Z2E ZO) ?_
  refine Z2g H3 rfl rfl underlying34 ti3 rfl (.cons rfl ZR .nil) rfl rfl rfl (fun b10_3 w4 H4 => ?_)
  refine Z46 H4 rfl rfl underlying34 ti3 rfl rfl rfl rfl (by first | (simp [Value.oneCell']; done) | (intro u hu; rw [List.mem_singleton.1 hu]; assumption)) (by first | (simp; done) | (simp; omega)) (by first | (simp; done) | (simp; omega)) (fun v10_4 w5 H5 => ?_)
  refine Zg (Z01 (Z02 ?_))
  refine Zk [0, 1, 5, 6, 7] ?_
  refine Z00 (Zm ?_)
  refine Z2D rfl rfl rfl rfl ZO (Z35 ZO) ?_
  refine Zg (Z01 ?_)
  refine Z0F ?_
  refine Z02 ?_
  refine Zk [0, 1, 5, 6, 7] ?_
  refine Z00 (Zm ?_)
  refine Z0y rfl rfl rfl rfl (Z0l ZO) ?_
  refine Zg (Z01 ?_)
  refine Z0p (i := (k, o, c, vo)) (k + 1, o ++ [c2 % 65536], c2 / 65536, v10_4) ?_ ?_ (.cons rfl (.cons rfl .nil)) ?_
  ·first | omega | (simp; omega)
  ·have ga := Z1N hDa k
   have gb := Z1N hDb k
   refine ⟨H5.cast (by rw [Z3s]), ZO, by simp; omega, hDo.snoc ZO, ZO, ZO, fun h => ?_, ?_⟩
   ·have z1 : la.getD k 0 = 0 := by simp [List.getD, show la.length ≤ k by omega]
    have z2 : lb.getD k 0 = 0 := by simp [List.getD, show lb.length ≤ k by omega]
    have hcc : c = 1 := by omega
    rw [rv_snoc, hol, show max la.length lb.length = k from by omega, show c2 % 65536 = 1 from by omega]
    have := hDo.rv_nonneg
    exact ⟨ZO, ZO⟩
   rw [rv_snoc, hol, Int.pow_succ]
   have h2 := Ma.vb_take_succ 65536 la k
   have h3 := Ma.vb_take_succ 65536 lb k
   show _ = Ma.vb _ _ + Ma.vb _ _
   rw [h2, h3, hc2v, show c + la.getD k 0 + lb.getD k 0 = la.getD k 0 + lb.getD k 0 + c from by omega]
   exact sum_step ZO hval
  exact (.cons rfl ZN (.cons rfl ZN (.cons rfl ZN .nil)))
 refine Z0H ?_
 refine Z06 ?_
 refine Z06 ?_
 refine Z0h ?_
 refine Z02 ?_
 refine Zk [5] ?_
 refine Z03 (Z00 (Zm (Zg (Z01 (Z02 ?_)))))
 refine Zk [4] ?_
 refine Z0i ?_
 refine Z0e results75 rfl ?_
 refine ⟨_, rfl, ?_⟩
 refine ⟨_, _, rfl, ⟨hDo.dg, Ma.Tr.of_ge (show (1 : Int) < 65536 by omega) hDo.dg fun hne => ?_, ?_⟩, H1.grows⟩
 ·rcases Nat.lt_or_ge (max la.length lb.length) k with h | h
  ·rw [hol, show k - 1 = max la.length lb.length from by omega]
   exact (hlast ZO).2
  have hc0' : c = 0 := by omega
  have hm : k = max la.length lb.length := by omega
  have hk0 : 0 < k := by rw [← hol]; exact List.length_pos_iff.2 hne
  rw [hc0', Int.mul_zero, Int.add_zero, List.take_of_length_le (show la.length ≤ k by omega), List.take_of_length_le (show lb.length ≤ k by omega)] at hval
  show _ ≤ rv o
  rw [hval, hol]
  have pa := hDa.rv_nonneg
  have pb := hDb.rv_nonneg
  rcases Nat.lt_or_ge la.length k with hla | hla
  ·have : (65536 : Int) ^ (lb.length - 1) ≤ rv lb := Ma.Tr.pos (show (0 : Int) < 65536 by omega) hRb.dg hRb.tr (by intro e; subst e; simp at hm; omega)
   rw [show lb.length = k from by omega] at this
   omega
  have : (65536 : Int) ^ (la.length - 1) ≤ rv la := Ma.Tr.pos (show (0 : Int) < 65536 by omega) hRa.dg hRa.tr (by intro e; subst e; simp at hla; omega)
  rw [show la.length = k from by omega] at this
  omega
 have hc0' : c = 0 := by omega
 rw [hc0', Int.mul_zero, Int.add_zero, List.take_of_length_le (show la.length ≤ k by omega), List.take_of_length_le (show lb.length ≤ k by omega)] at hval
 rw [show Ma.vb 65536 o = rv o from rfl, hval]
 show Ma.vb 65536 la + Ma.vb 65536 lb = _
 rw [hRa.val, hRb.val]
theorem bitsR (v : Value) (l : List Int) (n : Int) (hR : R16 l n) (hL : l.length ≤ 17592186044416) (w : World) (hv : IV w v (ints .i64 l)) :
  Z0f P 70 [v] w fun r w' => r = .int .i64 (Ma.blen n) ∧ w = w' := by
 refine Z0o func70 rfl ntmps70 rfl ?_
 have hD := hR.d
 refine Z03 (Z00 (Zg (Z01 (Z02 ?_))))
 refine Zk [0] ?_
 refine Z03 (Z03 (Z00 (Zm ?_)))
 refine Z0u rfl rfl underlying34 rfl (by first | exact hv | assumption) ?_
 refine Ze ?_
 refine Z01 (Z02 ?_)
 refine Zk [0, 7] ?_
 (first | refine Z0c rfl ?_ ?_ | refine Z08 rfl ?_ ?_) <;> intro hc0
 ·refine Z03 (Z00 (Zg (Z01 (Z02 ?_))))
  refine Zk [2] ?_
  refine Z0i ?_
  refine Z07 ?_
  refine Z0e results70 rfl ?_
  refine ⟨_, rfl, ?_⟩
  obtain rfl : l = [] := List.eq_nil_of_length_eq_zero ZO
  rw [← hR.val]
  exact ⟨rfl, rfl⟩
 refine Z0a (Z02 ?_)
 refine Zk [0] ?_
 refine Z03 (Z00 (Zm ?_))
 refine Z0u rfl rfl underlying34 rfl (by first | exact hv | assumption) ?_
 refine Z0W rfl rfl rfl rfl (Z0l ZO) ?_
 refine Z20 rfl rfl rfl rfl (Z0l ZO) ?_
 refine Zg (Z01 (Z02 ?_))
 refine Zk [0, 3] ?_
 refine Z03 (Z03 (Z00 (Zm (Zm ?_))))
 refine Z0u rfl rfl underlying34 rfl (by first | exact hv | assumption) ?_
 refine Z0W rfl rfl rfl rfl (Z0l ZO) ?_
 refine Z0T (j := l.length - 1) rfl rfl rfl rfl underlying34 tz3 underlying3 rfl rfl (by first | exact hv | assumption) ZA rfl ZO ZI (fun hb4_4 => ?_)
 refine Zg (Z01 (Z02 ?_))
 refine Zk [3, 4] ?_
 refine Z0d ?_
 refine Z0z (ι := Int × Int) (fun (z0 : Int × Int) => match z0 with | ⟨x, c⟩ => x.toNat) (fun (z0 : Int × Int) (w' : World) => match z0 with | ⟨x, c⟩ => w = w' ∧ 0 ≤ x ∧ x ≤ 65535 ∧ 0 ≤ c ∧ Ma.blen n = c + Ma.blen x ∧ c + Ma.blen x ≤ 281474976710656) (fun (z0 : Int × Int) => match z0 with | ⟨x, c⟩ => [(3, .int .i64 c), (4, .int .i64 x)]) [] (l.getD (l.length - 1) 0, 16 * ((l.length : Int) - 1)) ?_ .nil ?_ ?_
 ·have hb := Ma.blen_top (s := 16) hR.dg hR.tr ZO
  rw [show ((2 : Int) ^ 16) = 65536 from rfl, hR.val] at hb
  have h16 : Ma.blen (l.getD (l.length - 1) 0) ≤ 16 := (Ma.blen_le_iff hb4_4.1 16).2 ZO
  exact ⟨rfl, hb4_4.1, hb4_4.2, ZO, hb, ZO⟩
 ·exact (.cons rfl ZN (.cons rfl ZN .nil))
 rintro ⟨x, c⟩ _ ⟨rfl, hx0, hx1, hcc, hbl, hlim⟩
 show RunC P _ _ _ (_ :: _) _
 have hxx := Ma.blen_nonneg x
 refine Z03 (Z03 (Z00 (Zm ?_)))
 refine Zw ?_
 refine Z01 (Z02 ?_)
 refine Zk [3, 4, 19] ?_
 (first | refine Z0c rfl ?_ ?_ | refine Z08 rfl ?_ ?_) <;> intro hc1
 ·refine Z0a (Z02 ?_)
  refine Zk [3, 4] ?_
  refine Z03 (Z0d (Z00 (Zm ?_)))
  refine Z0y rfl rfl rfl rfl (Z0l ZO) ?_
  refine Zg (Z01 ?_)
  refine Z0F ?_
  refine Z02 ?_
  refine Zk [3, 4] ?_
  refine Z00 (Zm ?_)
  refine Z2D rfl rfl rfl rfl ZO (Z35 ZO) ?_
  refine Zg (Z01 ?_)
  refine Z0p (i := (x, c)) (x / 2, c + 1) ?_ ?_ .nil ?_
  ·first | omega | (simp; omega)
  ·have hh := Ma.blen_half (n := x) ZO
   refine ⟨rfl, ZO, ZO, ZO, ZO, ZO⟩
  exact (.cons rfl ZN (.cons rfl ZN .nil))
 refine Z0H ?_
 refine Z06 ?_
 refine Z06 ?_
 refine Z0h ?_
 refine Z02 ?_
 refine Zk [3] ?_
 refine Z03 (Z00 (Zm (Zg (Z01 (Z02 ?_)))))
 refine Zk [2] ?_
 refine Z0i ?_
 refine Z0e results70 rfl ?_
 refine ⟨_, rfl, ?_⟩
 have hx : x = 0 := by omega
 subst hx
 rw [Ma.blen_zero] at hbl
 exact ⟨by rw [hbl]; simp, rfl⟩
theorem smallR (v : Value) (l : List Int) (n d : Int) (hR : R16 l n) (hd : 1 ≤ d ∧ d ≤ 65535) (hL : l.length ≤ 1099511627776) (w : World) (hv : IV w v (ints .i64 l)) :
  Z0f P 84 [v, .int .i64 d] w fun r w' => ∃ v ls, r = .tuple #[v, .int .i64 (n % d)] ∧ R16 ls (n / d) ∧ Grow w w' [As.ri 3 .i64 v ls] := by
 refine Z0o func84 rfl ntmps84 rfl ?_
 have H0 := St.start w
 have hD := hR.d
 refine Z03 (Z00 (Zg (Zg (Z01 (Z02 ?_)))))
 refine Zk [0, 1] ?_
 refine Z03 (Z00 (Zm ?_))
 refine Z0u rfl rfl underlying34 rfl (by first | exact H0.iarg hv | assumption) ?_
 refine Z1A (m := l.length) (c := l.length) H0 rfl rfl underlying34 ti3 rfl rfl rfl ZO ZO ZO ZO ZO (fun v1_2 w1 H1 => ?_)
 refine Zg (Z01 (Z02 ?_))
 refine Zk [0, 1, 6] ?_
 refine Z03 (Z00 (Zg (Z01 (Z02 (Z03 (Z03 (Z00 (Zm ?_))))))))
 refine Z0u rfl rfl underlying34 rfl (by first | exact H1.io mem0 | exact H1.iarg hv | assumption) ?_
 refine Z0W rfl rfl rfl rfl (Z0l ZO) ?_
 refine Zg (Z01 (Z02 ?_))
 refine Zk [0, 1, 6, 7, 8] ?_
 refine Z0d ?_
 refine Z0z (ι := Nat × List Int × Int) (fun (z0 : Nat × List Int × Int) => match z0 with | ⟨k, o, q⟩ => k) (fun (z0 : Nat × List Int × Int) (w' : World) => match z0 with | ⟨k, o, q⟩ => St w w.heap.size Z0J ([As.ri 3 .i64 v1_2 o]) w' ∧ k ≤ l.length ∧ o.length = l.length ∧ D16 o ∧ 0 ≤ q ∧ q < d ∧ rv (o.drop k) * d + q = rv (l.drop k)) (fun (z0 : Nat × List Int × Int) => match z0 with | ⟨k, o, q⟩ => [(7, .int .i64 q), (8, .int .i64 ((k : Int) - 1))]) [0, 1, 6] (l.length, List.replicate l.length 0, 0) ?_ (.cons rfl (.cons rfl (.cons rfl .nil))) ?_ ?_
 ·refine ⟨?_, ZO, by simp, (fun y hy => by rw [List.eq_of_mem_replicate hy]; omega), ZO, ZO, by rw [List.drop_eq_nil_of_le (by simp), List.drop_eq_nil_of_le (Nat.le_refl _)]; simp [Ma.vb]⟩
  exact H1.cast (by rw [Z14])
 ·exact (.cons rfl ZN (.cons rfl ZN .nil))
 rintro ⟨k, o, q⟩ w2 ⟨H2, hk, hol, hDo, hq0, hq1, hval⟩
 show RunC P _ _ _ (_ :: _) _
 refine Z03 (Z03 (Z00 (Zm ?_)))
 refine Zh ?_
 refine Z01 (Z02 ?_)
 refine Zk [0, 1, 6, 7, 8, 16] ?_
 (first | refine Z0c rfl ?_ ?_ | refine Z08 rfl ?_ ?_) <;> intro hc0
 ·refine Z0a (Z02 ?_)
  refine Zk [0, 1, 6, 7, 8] ?_
  refine Z03 (Z0d (Z03 (Z00 (Zm ?_))))
  refine Z20 rfl rfl rfl rfl (Z0l ZO) ?_
  refine Zm (Zm ?_)
  refine Z0T (j := k - 1) rfl rfl rfl rfl underlying34 tz3 underlying3 rfl rfl (by first | exact H2.io mem0 | exact H2.iarg hv | assumption) ZA rfl ZO ZI (fun hb6_4 => ?_)
  refine Z0y rfl rfl rfl rfl (Z0l ZO) ?_
  refine Zg (Z01 (Z02 ?_))
  refine Zk [0, 1, 6, 7, 8] ?_
  refine Z03 (Z00 (Zm (Zm (Zm (Zm ?_)))))
  refine Z2D rfl rfl rfl rfl ZO (Z35 ZO) ?_
  refine Z2o (j := k - 1) rfl rfl underlying34 tz3 rfl rfl (by first | exact H2.io mem0 | exact H2.iarg hv | assumption) ZO ZI (fun A7_5 c7_5 hA7_5 => ?_)
  refine Z1w H2 .head hA7_5 rfl tz3 rfl rfl ZI (fun w3 H3 => ?_)
  refine Z01 (Z02 ?_)
  refine Zk [0, 1, 6, 7, 8] ?_
  refine Z00 (Zm (Zm ?_))
  refine Z2e rfl rfl rfl rfl ZO (Z2E ZO) ?_
  refine Zg (Z01 ?_)
  refine Z0F ?_
  refine Z02 ?_
  refine Zk [0, 1, 6, 7, 8] ?_
  refine Z00 (Zm ?_)
  refine Z0W rfl rfl rfl rfl (Z0l ZO) ?_
  refine Zg (Z01 ?_)
  refine Z0p (i := (k, o, q)) (k - 1, o.set (k - 1) ((q * 65536 + l.getD (k - 1) 0) / d), (q * 65536 + l.getD (k - 1) 0) % d) ?_ ?_ (.cons rfl (.cons rfl (.cons rfl .nil))) ?_
  ·first | omega | (simp; omega)
  ·have g1 : 0 ≤ (q * 65536 + l.getD (k - 1) 0) / d := Int.ediv_nonneg ZO ZO
   have g2 : (q * 65536 + l.getD (k - 1) 0) / d < 65536 := Int.ediv_lt_of_lt_mul ZO ZO
   have g3 := Int.emod_nonneg (q * 65536 + l.getD (k - 1) 0) (show d ≠ 0 by omega)
   have g4 := Int.emod_lt_of_pos (q * 65536 + l.getD (k - 1) 0) (show 0 < d by omega)
   refine ⟨H3, ZO, by simpa using hol, fun y hy => (List.mem_or_eq_of_mem_set hy).elim (hDo y) (fun e => by rw [e]; omega), g3, g4, ?_⟩
   have h1 := Ma.vb_drop 65536 (l := l) (k := k - 1) ZO
   have h2 := Ma.vb_drop 65536 (l := o.set (k - 1) ((q * 65536 + l.getD (k - 1) 0) / d)) (k := k - 1) (by simp; omega)
   rw [show k - 1 + 1 = k from by omega] at h1 h2
   have hds : (o.set (k - 1) ((q * 65536 + l.getD (k - 1) 0) / d)).drop k = o.drop k := List.drop_set_of_lt ZO
   rw [hds] at h2
   have h3 : (o.set (k - 1) ((q * 65536 + l.getD (k - 1) 0) / d)).getD (k - 1) 0 = (q * 65536 + l.getD (k - 1) 0) / d := by simp [List.getD, show k - 1 < o.length by omega]
   rw [h3] at h2
   show Ma.vb _ _ * d + _ = Ma.vb _ _
   rw [h1, h2]
   exact Ma.quo_step ZO ZO hval
  exact (.cons rfl ZN (.cons rfl ZN .nil))
 refine Z0H ?_
 refine Z06 ?_
 refine Z06 ?_
 refine Z0h ?_
 refine Z02 ?_
 refine Zk [6, 7] ?_
 refine Z03 (Z00 ?_)
 have hk0 : k = 0 := by omega
 subst hk0
 simp only [List.drop_zero] at hval
 refine Zm ?_
 refine Zc func87 (Z32 hDo ZO (H2.io mem0)) ?_
 rintro _ w4 ⟨v', rfl, hT, _⟩
 have H4 := hT _ _ _ _ _ .head H2
 refine Zm (Zg (Zg (Z01 (Z02 ?_))))
 refine Zk [4, 5] ?_
 refine Z0i ?_
 refine Z0P results84 rfl rfl ?_
 refine ⟨_, rfl, ?_⟩
 have hn : rv o * d + q = n := hval.trans hR.val
 have e1 : n / d = rv o := by rw [← hn, Int.add_comm, Int.add_mul_ediv_right _ _ ZO, Int.ediv_eq_zero_of_lt hq0 hq1, Int.zero_add]
 have e2 : n % d = q := by rw [← hn, Int.add_comm, Int.add_mul_emod_self_right, Int.emod_eq_of_lt hq0 hq1]
 refine ⟨_, _, by rw [e2], ?_, H4.grows⟩
 rw [e1]
 exact Ma.Cn.of_tr hDo.dg rfl
theorem prodR (a b : Value) (la lb : List Int) (na nb : Int) (hRa : R16 la na) (hRb : R16 lb nb) (hLa : la.length ≤ 1099511627776) (hLb : lb.length ≤ 1099511627776) (w : World) (ha : IV w a (ints .i64 la)) (hb : IV w b (ints .i64 lb)) :
  Z0f P 81 [a, b] w fun r w' => ∃ v ls, r = v ∧ R16 ls (na * nb) ∧ Grow w w' [As.ri 3 .i64 v ls] := by
 refine Z0o func81 rfl ntmps81 rfl ?_
 have H0 := St.start w
 have hDa := hRa.d
 have hDb := hRb.d
 refine Z03 (Z00 (Zg (Z01 (Z02 ?_))))
 refine Zk [0, 1] ?_
 refine Z03 (Z00 (Zm ?_))
 refine Z0u rfl rfl underlying34 rfl (by first | exact H0.iarg ha | exact H0.iarg hb | assumption) ?_
 refine Zm ?_
 refine Z0u rfl rfl underlying34 rfl (by first | exact H0.iarg ha | exact H0.iarg hb | assumption) ?_
 refine Z0y rfl rfl rfl rfl (Z0l ZO) ?_
 refine Z1A (m := la.length + lb.length) (c := la.length + lb.length) H0 rfl rfl underlying34 ti3 rfl rfl rfl ZO ZO ZO ZO ZO (fun v1_5 w1 H1 => ?_)
 refine Zg (Z01 (Z02 ?_))
 refine Zk [0, 1, 5] ?_
 refine Z03 (Z03 (Z00 (Zg (Z01 (Z02 (Z0d ?_))))))
 refine Z0z (ι := Nat × List Int) (fun (z0 : Nat × List Int) => match z0 with | ⟨ii, o⟩ => la.length - ii) (fun (z0 : Nat × List Int) (w' : World) => match z0 with | ⟨ii, o⟩ => St w w.heap.size Z0J ([As.ri 3 .i64 v1_5 o]) w' ∧ ii ≤ la.length ∧ o.length = la.length + lb.length ∧ D16 o ∧ rv o = rv (la.take ii) * rv lb) (fun (z0 : Nat × List Int) => match z0 with | ⟨ii, o⟩ => [(6, .int .i64 (ii : Int))]) [0, 1, 5] (0, List.replicate (la.length + lb.length) 0) ?_ (.cons rfl (.cons rfl (.cons rfl .nil))) ?_ ?_
 ·refine ⟨?_, ZO, by simp, (fun y hy => by rw [List.eq_of_mem_replicate hy]; omega), by simp [Ma.vb, Ma.vb_zeros]⟩
  exact H1.cast (by rw [Z14])
 ·exact (.cons rfl ZN .nil)
 rintro ⟨ii, o⟩ w2 ⟨H2, hi, hol, hDo, hval⟩
 show RunC P _ _ _ (_ :: _) _
 refine Z03 (Z03 (Z00 (Zm (Zm ?_))))
 refine Z0u rfl rfl underlying34 rfl (by first | exact H2.io mem0 | exact H2.iarg ha | exact H2.iarg hb | assumption) ?_
 refine Zl ?_
 refine Z01 (Z02 ?_)
 refine Zk [0, 1, 5, 6, 18] ?_
 (first | refine Z0c rfl ?_ ?_ | refine Z08 rfl ?_ ?_) <;> intro hc0
 ·refine Z0a (Z02 ?_)
  refine Zk [0, 1, 5, 6] ?_
  refine Z03 (Z0d (Z03 (Z00 (Zg (Z01 (Z02 (Z03 (Z00 (Zg (Z01 (Z02 ?_)))))))))))
  refine Z0d ?_
  refine Z0z (ι := Nat × List Int × Int) (fun (z0 : Nat × List Int × Int) => match z0 with | ⟨k, o', c⟩ => lb.length + 1 - k) (fun (z0 : Nat × List Int × Int) (w' : World) => match z0 with | ⟨k, o', c⟩ => St w w.heap.size Z0J ([As.ri 3 .i64 v1_5 o']) w' ∧ k ≤ lb.length + 1 ∧ o'.length = la.length + lb.length ∧ D16 o' ∧ 0 ≤ c ∧ c ≤ 65535 ∧ rv o' + 65536 ^ (ii + k) * c = rv (la.take ii) * rv lb + 65536 ^ ii * la.getD ii 0 * rv (lb.take k)) (fun (z0 : Nat × List Int × Int) => match z0 with | ⟨k, o', c⟩ => [(7, .int .i64 c), (8, .int .i64 (k : Int))]) [0, 1, 5, 6] (0, o, 0) ?_ (.cons rfl (.cons rfl (.cons rfl (.cons rfl .nil)))) ?_ ?_
  ·exact ⟨H2, ZO, hol, hDo, ZO, ZO, by rw [hval]; simp [Ma.vb]⟩
  ·exact (.cons rfl ZN (.cons rfl ZN .nil))
  rintro ⟨k, o', c⟩ w3 ⟨H3, hk, hol', hDo', hc1, hc2, hval'⟩
  show RunC P _ _ _ (_ :: _) _
  refine Z03 (Z03 (Z00 (Zm (Zm ?_))))
  refine Z0u rfl rfl underlying34 rfl (by first | exact H3.io mem0 | exact H3.iarg ha | exact H3.iarg hb | assumption) ?_
  refine Zl ?_
  refine Zm ?_
  apply l_or 2 [0, 1, 5, 6, 7, 8] rfl rfl (.cons rfl (.cons rfl (.cons rfl (.cons rfl (.cons rfl (.cons rfl (.cons rfl .nil))))))) rfl rfl (fun _ => rfl) rfl rfl rfl
  ·intro hg7_5
   refine Zm ?_
   refine Zw ?_
   refine Z01 ?_
   exact Z0O rfl (.cons rfl (ZF hg7_5) (.cons rfl rfl (.cons rfl rfl (.cons rfl rfl (.cons rfl rfl (.cons rfl rfl (.cons rfl rfl .nil)))))))
  refine Z01 (Z02 ?_)
  refine Zk [0, 1, 5, 6, 7, 8, 28] ?_
  (first | refine Z0c rfl ?_ ?_ | refine Z08 rfl ?_ ?_) <;> intro hc1
  ·refine Z0a (Z02 ?_)
   refine Zk [0, 1, 5, 6, 7, 8] ?_
   refine Z03 (Z0d (Z03 (Z00 ?_)))
   have hkl : k ≤ lb.length := by
    rcases Nat.lt_or_ge k lb.length with h | h
    ·omega
    exact Ma.prod_room (show (1 : Int) < 65536 by omega) hRa.dg hRb.dg hDo'.rv_nonneg (show 0 < c by omega) hval' ZO
   have hga := Z1N hDa ii
   have hgb := Z1N hDb k
   have hgo := Z1N hDo' (ii + k)
   have hik : ii + k < la.length + lb.length := by
    rcases Nat.lt_or_ge k lb.length with h | h
    ·omega
    omega
   have hpr := Z23 (a := la.getD ii 0) (b := lb.getD k 0) (x := 65536) (y := 65536) ZO ZO
   refine Zm (Zm (Zm (Zm ?_)))
   refine Z0y rfl rfl rfl rfl (Z0l ZO) ?_
   refine Z0T (j := ii + k) rfl rfl rfl rfl underlying34 tz3 underlying3 rfl rfl (by first | exact H3.io mem0 | exact H3.iarg ha | exact H3.iarg hb | assumption) ZA rfl ZO ZI (fun hb9_5 => ?_)
   refine Z0y rfl rfl rfl rfl (Z0l ZO) ?_
   refine Zg (Z01 (Z02 ?_))
   refine Zk [0, 1, 5, 6, 7, 8] ?_
   refine Z1q (ι := Int) (fun (t : Int) (w' : World) => St w w.heap.size Z0J ([As.ri 3 .i64 v1_5 o']) w' ∧ t = c + o'.getD (ii + k) 0 + la.getD ii 0 * lb.getD k 0) (fun (t : Int) => [(7, .int .i64 t)]) [0, 1, 5, 6, 8] (.cons rfl (.cons rfl (.cons rfl (.cons rfl (.cons rfl .nil))))) ?_ ?_
   ·refine Z03 (Z00 (Zm (Zm ?_)))
    refine Z0u rfl rfl underlying34 rfl (by first | exact H3.io mem0 | exact H3.iarg ha | exact H3.iarg hb | assumption) ?_
    refine Zl ?_
    refine Z01 (Z02 ?_)
    refine Zk [0, 1, 5, 6, 7, 8, 42] ?_
    (first | refine Z0c rfl ?_ ?_ | refine Z08 rfl ?_ ?_) <;> intro hc2
    ·refine Z2F ZK ZK ?_
     have H4 := H3.drewn
     refine Zm (Zm (Zm ?_))
     refine Z0T rfl rfl rfl rfl underlying34 tz3 underlying3 rfl rfl (by first | exact H4.io mem0 | exact H4.iarg ha | exact H4.iarg hb | assumption) ZA rfl rfl ZI (fun hb11_3 => ?_)
     refine Zm (Zm ?_)
     refine Z0T rfl rfl rfl rfl underlying34 tz3 underlying3 rfl rfl (by first | exact H4.io mem0 | exact H4.iarg ha | exact H4.iarg hb | assumption) ZA rfl rfl ZI (fun hb11_7 => ?_)
     refine Z20 rfl rfl rfl rfl (Z0l ZO) ?_
     refine Z0y rfl rfl rfl rfl (Z0l ZO) ?_
     refine Zg (Z01 ?_)
     refine Z0w (c + o'.getD (ii + k) 0 + la.getD ii 0 * lb.getD k 0) ?_ (.cons rfl (.cons rfl (.cons rfl (.cons rfl (.cons rfl .nil))))) ?_
     ·exact ⟨H4, rfl⟩
     exact (.cons rfl ZN .nil)
    refine Z0a ?_
    refine Z0w (c + o'.getD (ii + k) 0) ?_ (.cons rfl (.cons rfl (.cons rfl (.cons rfl (.cons rfl .nil))))) ?_
    ·exact ⟨H3, by rw [Z3W (l := lb) ZO]; simp⟩
    exact (.cons rfl ZN .nil)
   rintro t w5 ⟨H5, htv⟩
   show RunC P _ _ _ (_ :: _) _
   refine Z03 (Z00 (Zm (Zm (Zm ?_))))
   refine Z0y rfl rfl rfl rfl (Z0l ZO) ?_
   refine Zm ?_
   refine Z2e rfl rfl rfl rfl ZO (Z2E ZO) ?_
   refine Z2o (j := ii + k) rfl rfl underlying34 tz3 rfl rfl (by first | exact H5.io mem0 | exact H5.iarg ha | exact H5.iarg hb | assumption) ZO ZI (fun A12_6 c12_6 hA12_6 => ?_)
   refine Z1w H5 .head hA12_6 rfl tz3 rfl rfl ZI (fun w6 H6 => ?_)
   refine Z01 (Z02 ?_)
   refine Zk [0, 1, 5, 6, 7, 8] ?_
   refine Z00 (Zm ?_)
   refine Z2D rfl rfl rfl rfl ZO (Z35 ZO) ?_
   refine Zg (Z01 ?_)
   refine Z0F ?_
   refine Z02 ?_
   refine Zk [0, 1, 5, 6, 7, 8] ?_
   refine Z00 (Zm ?_)
   refine Z0y rfl rfl rfl rfl (Z0l ZO) ?_
   refine Zg (Z01 ?_)
   refine Z0p (i := (k, o', c)) (k + 1, o'.set (ii + k) (t % 65536), t / 65536) ?_ ?_ (.cons rfl (.cons rfl (.cons rfl (.cons rfl .nil)))) ?_
   ·first | omega | (simp; omega)
   ·refine ⟨H6, ZO, by simpa using hol', fun y hy => (List.mem_or_eq_of_mem_set hy).elim (hDo' y) (fun e => by rw [e]; omega), ZO, ZO, ?_⟩
    have h1 := Ma.vb_set_at 65536 o' (ii + k) (t % 65536) ZO
    have h2 := Ma.vb_take_succ 65536 lb k
    have h3 := Ma.prod_step (B := 65536) (p := 65536 ^ (ii + k)) (x := la.getD ii 0 * lb.getD k 0) ZO hval' (o'.getD (ii + k) 0) htv
    show Ma.vb _ _ + _ = _ + _ * Ma.vb _ _
    rw [h1, h2, ← Nat.add_assoc, Int.pow_succ, h3, Int.pow_add, Int.mul_add, ← Int.add_assoc]
    congr 1
    rw [Int.mul_assoc, Int.mul_assoc, Int.mul_left_comm (la.getD ii 0)]
   exact (.cons rfl ZN (.cons rfl ZN .nil))
  refine Z0H ?_
  refine Z06 ?_
  refine Z06 ?_
  refine Z0h ?_
  refine Z0F ?_
  refine Z02 ?_
  refine Zk [0, 1, 5, 6] ?_
  refine Z00 (Zm ?_)
  refine Z0y rfl rfl rfl rfl (Z0l ZO) ?_
  refine Zg (Z01 ?_)
  refine Z0p (i := (ii, o)) (ii + 1, o') ?_ ?_ (.cons rfl (.cons rfl (.cons rfl .nil))) ?_
  ·first | omega | (simp; omega)
  ·have hc0' : c = 0 := by omega
   rw [hc0', Int.mul_zero, Int.add_zero, List.take_of_length_le (show lb.length ≤ k by omega), ← Int.add_mul] at hval'
   refine ⟨H3, ZO, hol', hDo', ?_⟩
   show _ = Ma.vb _ _ * _
   rw [Ma.vb_take_succ]
   exact hval'
  exact (.cons rfl ZN .nil)
 refine Z0H ?_
 refine Z06 ?_
 refine Z06 ?_
 refine Z0h ?_
 refine Z02 ?_
 refine Zk [5] ?_
 refine Z03 (Z00 (Zm ?_))
 refine Zc func87 (Z32 hDo ZO (H2.io mem0)) ?_
 rintro _ w7 ⟨v', rfl, hT, _⟩
 have H7 := hT _ _ _ _ _ .head H2
 refine Zg (Z01 (Z02 ?_))
 refine Zk [4] ?_
 refine Z0i ?_
 refine Z0e results81 rfl ?_
 refine ⟨_, rfl, ?_⟩
 rw [List.take_of_length_le ZO] at hval
 refine ⟨_, _, rfl, Ma.Cn.of_tr hDo.dg (hval.trans ?_), H7.grows⟩
 show Ma.vb 65536 la * Ma.vb 65536 lb = _
 rw [hRa.val, hRb.val]
def pv (l : List UInt8) : Int := l.foldl (fun a b => 10 * a + ((b.toNat : Int) - 48)) 0
theorem isD.le {b : UInt8} (h : isD b) : 48 ≤ (b.toNat : Int) ∧ (b.toNat : Int) ≤ 57 := h
theorem R16.len {l : List Int} {n : Int} (h : R16 l n) {k : Nat} (hb : Ma.blen n ≤ k) : 16 * l.length ≤ k + 16 := by
 rcases Nat.eq_zero_or_pos l.length with h0 | h0
 ·omega
 have := Ma.blen_top (s := 16) h.dg h.tr h0
 rw [show ((2 : Int) ^ 16) = 65536 from rfl, h.val] at this
 have := Ma.blen_nonneg (l.getD (l.length - 1) 0)
 omega
theorem R16.blen {l : List Int} {n : Int} (h : R16 l n) : Ma.blen n ≤ 16 * l.length := by
 have h1 := Ma.vb_lt (show (0 : Int) < 65536 by omega) h.dg
 rw [h.val, show (65536 : Int) = 2 ^ 16 from rfl, ← Int.pow_mul] at h1
 have := (Ma.blen_le_iff (h.nonneg ZO) (16 * l.length)).2 h1
 omega
theorem U.one {x : Int} (h : 0 ≤ x ∧ x ≤ 18446744073709551615) : U [x] := fun y hy => by rw [List.mem_singleton.1 hy]; exact h
end Go.Proofs.YtgfkagaacdblbaaGreat.W
