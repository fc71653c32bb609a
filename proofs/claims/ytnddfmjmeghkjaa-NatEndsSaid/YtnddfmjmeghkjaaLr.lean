/- walk of mintagelaw02.NatEnds -/
import Derived.Test.YtnddfmjmeghkjaaLq
set_option linter.unusedVariables false
set_option linter.unusedSimpArgs false
set_option maxRecDepth 10000
namespace Go.Proofs.Ytnddfmjmeghkjaa.W
open Go.Vc Go.RowKit

/-- 2 to the 8191 -/
def topN : Int := 2 ^ 8191
theorem topN_eq : topN = 2 ^ 8191 := rfl
theorem topN_pos : 0 < topN := Ma.pow_pos (by omega) 8191
theorem topN_two : topN + topN = 2 ^ 8192 := by
  have : (2 : Int) ^ (8191 + 1) = 2 ^ 8191 * 2 := Int.pow_succ ..
  rw [show (8192 : Nat) = 8191 + 1 from rfl, this, ← topN_eq]
  omega
theorem topN_four : topN + topN + (topN + topN) = 2 ^ 8193 := by
  have : (2 : Int) ^ (8192 + 1) = 2 ^ 8192 * 2 := Int.pow_succ ..
  rw [show (8193 : Nat) = 8192 + 1 from rfl, this, ← topN_two]
  omega
theorem blen_in {x : Int} {k : Nat} {a b : Int} (ha : a = 2 ^ k) (hb : b = 2 ^ (k + 1)) (h1 : a ≤ x) (h2 : x < b) : Ma.blen x = (k : Int) + 1 := Ma.blen_of (by rw [← ha]; exact h1) (by rw [← hb]; exact h2)
theorem blen_topN : Ma.blen topN = 8192 := by
  have h := topN_pos
  have := blen_in (k := 8191) topN_eq topN_two (Int.le_refl topN) (by omega)
  rw [this]; rfl
theorem blen_topN2 : Ma.blen (topN + topN) = 8193 := by
  have h := topN_pos
  have := blen_in (k := 8192) topN_two topN_four (Int.le_refl (topN + topN)) (by omega)
  rw [this]; rfl
theorem blen_full : Ma.blen (topN + (topN - 1)) = 8192 := by
  have h := topN_pos
  have := blen_in (x := topN + (topN - 1)) (k := 8191) topN_eq topN_two (by omega) (by omega)
  rw [this]; rfl
theorem blen_all : Ma.blen (topN - 1) ≤ 8192 := by
  have h := topN_pos
  have := Ma.blen_mono (a := topN - 1) (b := topN) (by omega) (by omega)
  rw [blen_topN] at this
  exact this
theorem blen_over {x : Int} (h : topN + topN ≤ x) : 8193 ≤ Ma.blen x := by
  have h0 := topN_pos
  have := Ma.blen_mono (a := topN + topN) (b := x) (by omega) h
  rw [blen_topN2] at this
  exact this
theorem U1 {x : Int} (h : 0 ≤ x ∧ x ≤ 18446744073709551615) : U [x] := fun y hy => by rw [List.mem_singleton.1 hy]; exact h
theorem nv1 (x : Int) : nv [x] = x := by simp [Ma.vb]
theorem shlT {v : Value} {w : World} (hv : IV w v (ints .u64 [1])) : CallsV P 31 [v, .int .i64 8191] w fun r w' => ∃ v ls, r = .tuple #[v, .int .i64 0] ∧ Ma.Cn 18446744073709551616 ls topN ∧ Grow w w' [As.ri 22 .u64 v ls] := by
  refine (ShlN v [1] (U1 (by omega)) (by simp) 8191 w hv).mono ?_
  intro r w' h
  have e : shlS (nv [1]) 8191 = (0, topN) := by
    unfold shlS
    rw [nv1, show Ma.blen 1 = 1 from by decide, if_neg (by omega), if_neg (by omega), if_neg (by omega), if_neg (by omega), Int.one_mul]
    rfl
  rw [e] at h
  exact h
theorem subS {a b : Value} {la lb : List Int} (hUa : U la) (hUb : U lb) (hLa : la.length ≤ 1099511627776) (hLb : lb.length ≤ 1099511627776) (h : nv lb ≤ nv la) {w : World} (ha : IV w a (ints .u64 la)) (hb : IV w b (ints .u64 lb)) :
    CallsV P 38 [a, b] w fun r w' => ∃ v ls, r = .tuple #[v, .bool true] ∧ Ma.Cn 18446744073709551616 ls (nv la - nv lb) ∧ Grow w w' [As.ri 22 .u64 v ls] := by
  refine (subN a b la lb hUa hUb hLa hLb w ha hb).mono ?_
  rintro r w' ⟨v, ls, rfl, hcn, hG⟩
  rw [if_pos h] at hcn
  exact ⟨v, ls, by rw [decide_eq_true h], hcn, hG⟩
theorem addLong {a b : Value} {la lb : List Int} (hUa : U la) (hUb : U lb) (hLa : la.length ≤ 1099511627776) (hLb : lb.length ≤ 1099511627776) (h : 8192 < Ma.blen (nv la) ∨ 8192 < Ma.blen (nv lb) ∨ 8192 < Ma.blen (nv la + nv lb)) {w : World} (ha : IV w a (ints .u64 la)) (hb : IV w b (ints .u64 lb)) :
    CallsV P 29 [a, b] w fun r w' => ∃ v, r = .tuple #[v, .int .i64 21] ∧ Grow w w' [As.ri 22 .u64 v []] := by
  refine (addN a b la lb hUa hUb hLa hLb w ha hb).mono ?_
  intro r w' h1
  rw [if_pos h, if_pos h] at h1
  obtain ⟨v, ls, rfl, hcn, hG⟩ := h1
  have : ls = [] := (hcn.nil_iff (by omega)).2 rfl
  subst this
  exact ⟨v, rfl, hG⟩
theorem shrLong {a : Value} {la : List Int} (hUa : U la) (hLa : la.length ≤ 68719476736) (h : 8192 < Ma.blen (nv la)) {w : World} (ha : IV w a (ints .u64 la)) :
    CallsV P 32 [a, .int .i64 5] w fun r w' => ∃ v b, r = .tuple #[v, .bool b, .int .i64 21] ∧ Grow w w' [] := by
  refine (ShrN a la hUa hLa 5 w ha).mono ?_
  intro r w' h1
  have e : shrS (nv la) 5 = (21, 0, false) := if_pos h
  rw [e] at h1
  obtain ⟨v, ls, rfl, hcn, hG⟩ := h1
  exact ⟨v, false, rfl, fun w0 B M σ hw => (hG w0 B M σ hw).forget⟩
theorem divLong {a b : Value} {la lb : List Int} (hUa : U la) (hUb : U lb) (hLa : la.length ≤ 1073741824) (hLb : lb.length ≤ 1073741824) (h : 8192 < Ma.blen (nv lb)) {w : World} (ha : IV w a (ints .u64 la)) (hb : IV w b (ints .u64 lb)) :
    CallsV P 34 [a, b] w fun r w' => ∃ v u, r = .tuple #[v, u, .int .i64 21] ∧ Grow w w' [] := by
  refine (divModN a b la lb hUa hUb hLa hLb w ha hb).mono ?_
  intro r w' h1
  have e : divS (nv la) (nv lb) = (21, 0, 0) := if_pos (.inr h)
  rw [e] at h1
  obtain ⟨v, u, lv, lu, rfl, hcn, hcm, hG⟩ := h1
  exact ⟨v, u, rfl, fun w0 B M σ hw => (hG w0 B M σ hw).forget.forget⟩
theorem powLong {w : World} : CallsV P 10 [.int .u64 2, .int .i64 8192] w fun r w' => ∃ v, r = .tuple #[v, .int .i64 21] ∧ Grow w w' [] := by
  refine (powN 2 8192 (by omega) (by omega) w).mono ?_
  intro r w' h
  rw [powS_long (by omega) (by show 8192 < Ma.blen (2 ^ 8192); rw [← topN_two, blen_topN2]; omega)] at h
  obtain ⟨v, ls, rfl, hcn, hG⟩ := h
  exact ⟨v, rfl, fun w0 B M σ hw => (hG w0 B M σ hw).forget⟩
theorem powT {w : World} : CallsV P 10 [.int .u64 2, .int .i64 8191] w fun r w' => ∃ v ls, r = .tuple #[v, .int .i64 0] ∧ Ma.Cn 18446744073709551616 ls topN ∧ Grow w w' [As.ri 22 .u64 v ls] := by
  refine (powN 2 8191 (by omega) (by omega) w).mono ?_
  intro r w' h
  rw [powS_ok (by omega) (by show Ma.blen (2 ^ 8191) ≤ 8192; rw [← topN_eq, blen_topN]; omega)] at h
  exact h
theorem parse0 {n : Int} (h : 0 ≤ n) (hb : Ma.blen n ≤ 8192) (w : World) : CallsV P 21 [str (dtx n)] w fun r w' => ∃ v ls, r = .tuple #[v, .int .i64 0] ∧ Ma.Cn 18446744073709551616 ls n ∧ Grow w w' [As.ri 22 .u64 v ls] := parseZ h hb 0 (by omega) w
theorem parseLong {n : Int} (h : 0 ≤ n) (hb : Ma.blen n ≤ 8192) (hl : topN + topN ≤ 10 * n) (w : World) : CallsV P 21 [str (dtx n ++ [48])] w fun r w' => ∃ v, r = .tuple #[v, .int .i64 21] ∧ Grow w w' [] := by
  have hll := dtx_len h
  have hf := dtx_fact h
  refine (parseN _ (by rw [List.length_append, List.length_singleton]; omega) w).mono ?_
  intro r w' hr
  have e : pv (dtx n ++ [48]) = 10 * n := by
    rw [pv_snoc, hf.2.1]
    show 10 * n + (48 - 48) = _
    omega
  have hbo := blen_over (x := pv (dtx n ++ [48])) (by rw [e]; exact hl)
  rw [parsed_long (by simp) (dig_get fun x hx => (List.mem_append.1 hx).elim (hf.1 x) fun h1 => by rw [List.mem_singleton.1 h1]; decide) (by omega)] at hr
  obtain ⟨v, ls, rfl, hcn, hG⟩ := hr
  exact ⟨v, rfl, fun w0 B M σ hw => (hG w0 B M σ hw).forget⟩
theorem nv_snoc (l : List Int) (x : Int) : nv (l ++ [x]) = nv l + 18446744073709551616 ^ l.length * x := by
  show Ma.vb _ _ = _
  rw [Ma.vb_append]
  simp [Ma.vb]
theorem U.snoc {l : List Int} (h : U l) {x : Int} (hx : 0 ≤ x ∧ x ≤ 18446744073709551615) : U (l ++ [x]) := fun y hy => (List.mem_append.1 hy).elim (h y) fun e => by rw [List.mem_singleton.1 e]; exact hx

theorem natEndsL  (w : World) :
    CallsV P 9 [] w fun r w' => r = .bool true ∧ Grow w w' [] := by
  refine enterW Try.func9 rfl Try.ntmps9 rfl ?_
  have hw0 := St.start w
  have hT0 := topN_pos
  have hbT := blen_topN
  have hbT2 := blen_topN2
  have hbF := blen_full
  have hbA := blen_all
  refine c_seq ?_
  refine c_region ?_
  refine l_assign rfl rfl rfl ?_
  refine l_nil ?_
  refine e_then ?_
  refine c_keep [] .nil ?_
  refine c_seq ?_
  refine c_region ?_
  refine v_lit hw0 rfl rfl Try.underlying25 ti22 rfl (.cons rfl (by first | rfl | assumption) .nil) rfl rfl rfl (fun b1_0 w1 hw1 => ?_)
  try clear hw0
  refine l_call rfl rfl Try.func31 rfl rfl (.cons rfl (.cons rfl .nil)) (shlT (hw1.ibl mem0)) ?_
  rintro _ w2 ⟨vt, lt, rfl, ht, hG⟩
  have hw2 := hG _ _ _ _ hw1
  try clear hG hw1
  simp only [List.cons_append, List.nil_append] at hw2
  refine l_move rfl rfl rfl ?_
  refine l_extract rfl rfl rfl rfl ?_
  refine l_extract rfl rfl rfl rfl ?_
  refine l_assign rfl rfl rfl ?_
  refine l_assign rfl rfl rfl ?_
  refine l_nil ?_
  refine e_then ?_
  refine c_keep [1, 2] (.cons rfl (.cons rfl .nil)) ?_
  refine c_seq ?_
  refine c_region ?_
  have et : nv lt = topN := ht.val
  have llt := cn_len ht (k := 8192) (by omega)
  have hUt0 := (cnU ht).snoc (x := 0) (by omega)
  refine v_lit0 hw2 rfl rfl Try.underlying25 tz22 (fun v2_0 w3 hw3 => ?_)
  try clear hw2
  refine l_move rfl rfl rfl ?_
  refine v_append0 hw3 rfl rfl Try.underlying25 ti22 rfl rfl rfl (by first | exact hw3.io mem0 | exact hw3.io mem1 | exact hw3.ibl mem2 | assumption) (by first | exact ints_one _ _ | exact bys_one _ | simp [Value.oneCell']) (by first | (simp; done) | (simp; omega)) (by first | (simp; done) | (simp; omega)) (fun v2_2 w4 hw4 => ?_)
  try clear hw3
  refine v_lit hw4 rfl rfl Try.underlying25 ti22 rfl (.cons rfl (by first | rfl | assumption) .nil) rfl rfl rfl (fun b2_3 w5 hw5 => ?_)
  try clear hw4
  refine v_push hw5 rfl rfl Try.underlying25 ti22 rfl rfl rfl rfl (by first | (simp [Value.oneCell']; done) | (intro u hu; rw [List.mem_singleton.1 hu]; assumption)) (by first | (simp; done) | (simp; omega)) (by first | (simp; done) | (simp; omega)) (fun v2_4 w6 hw6 => ?_)
  try clear hw5
  refine v_lit hw6 rfl rfl Try.underlying25 ti22 rfl (.cons rfl (by first | rfl | assumption) .nil) rfl rfl rfl (fun b2_5 w7 hw7 => ?_)
  try clear hw6
  refine l_call rfl rfl Try.func38 rfl rfl (.cons rfl (.cons rfl .nil)) (subS hUt0 (U1 (by omega)) (by simp; omega) (by simp) (by rw [nv_snoc, nv1, et]; omega) (by simpa [ints] using hw7.io mem1) (hw7.ibl mem0)) ?_
  rintro _ w8 ⟨va, lla, rfl, ha, hG⟩
  have hw8 := hG _ _ _ _ hw7
  try clear hG hw7
  simp only [List.cons_append, List.nil_append] at hw8
  refine l_move rfl rfl rfl ?_
  refine l_extract rfl rfl rfl rfl ?_
  refine l_extract rfl rfl rfl rfl ?_
  refine l_assign rfl rfl rfl ?_
  refine l_assign rfl rfl rfl ?_
  refine l_nil ?_
  refine e_then ?_
  refine c_keep [1, 2, 3, 4] (.cons rfl (.cons rfl (.cons rfl (.cons rfl .nil)))) ?_
  refine c_seq ?_
  refine c_region ?_
  have ea : nv lla = topN - 1 := by
    have h := ha.val
    rw [nv_snoc, nv1, et, Int.mul_zero, Int.add_zero] at h
    exact h
  have lla1 := cn_len ha (k := 8192) (by rw [nv_snoc, nv1, et, Int.mul_zero, Int.add_zero]; omega)
  have hw9 := St.del (.tail (.tail .head)) hw8
  try clear hw8
  have hw10 := St.del (.tail .head) hw9
  try clear hw9
  have hw11 := St.del (.tail (.tail .head)) hw10
  try clear hw10
  refine l_move rfl rfl rfl ?_
  refine l_move rfl rfl rfl ?_
  refine l_call rfl rfl Try.func29 rfl rfl (.cons rfl (.cons rfl .nil)) (addLong (cnU ht) (cnU ht) (by omega) (by omega) (.inr (.inr (by rw [et]; omega))) (hw11.io mem1) (hw11.io mem1)) ?_
  rintro _ w12 ⟨vw, rfl, hG⟩
  have hw12 := hG _ _ _ _ hw11
  try clear hG hw11
  simp only [List.cons_append, List.nil_append] at hw12
  refine l_move rfl rfl rfl ?_
  refine l_extract rfl rfl rfl rfl ?_
  refine l_extract rfl rfl rfl rfl ?_
  refine l_assign rfl rfl rfl ?_
  refine l_assign rfl rfl rfl ?_
  refine l_nil ?_
  refine e_then ?_
  refine c_keep [1, 2, 3, 4, 5, 6] (.cons rfl (.cons rfl (.cons rfl (.cons rfl (.cons rfl (.cons rfl .nil)))))) ?_
  refine c_seq ?_
  refine c_region ?_
  refine l_move rfl rfl rfl ?_
  refine l_move rfl rfl rfl ?_
  refine l_call rfl rfl Try.func29 rfl rfl (.cons rfl (.cons rfl .nil)) (addS (cnU ht) (cnU ha) (by omega) (by omega) (by rw [et]; omega) (by rw [ea]; omega) (by rw [et, ea]; omega) (hw12.io mem2) (hw12.io mem1)) ?_
  rintro _ w13 ⟨vf, lf, rfl, hf, hG⟩
  have hw13 := hG _ _ _ _ hw12
  try clear hG hw12
  simp only [List.cons_append, List.nil_append] at hw13
  refine l_move rfl rfl rfl ?_
  refine l_extract rfl rfl rfl rfl ?_
  refine l_extract rfl rfl rfl rfl ?_
  refine l_assign rfl rfl rfl ?_
  refine l_assign rfl rfl rfl ?_
  refine l_nil ?_
  refine e_then ?_
  refine c_keep [1, 2, 4, 5, 6, 7, 8] (.cons rfl (.cons rfl (.cons rfl (.cons rfl (.cons rfl (.cons rfl (.cons rfl .nil))))))) ?_
  refine c_seq ?_
  refine c_region ?_
  have ef : nv lf = topN + (topN - 1) := by
    have h := hf.val
    rw [et, ea] at h
    exact h
  have llf := cn_len hf (k := 8192) (by rw [et, ea]; omega)
  refine l_move rfl rfl rfl ?_
  refine v_lit hw13 rfl rfl Try.underlying25 ti22 rfl (.cons rfl (by first | rfl | assumption) .nil) rfl rfl rfl (fun b5_1 w14 hw14 => ?_)
  try clear hw13
  refine l_call rfl rfl Try.func29 rfl rfl (.cons rfl (.cons rfl .nil)) (addLong (cnU hf) (U1 (x := 1) (by omega)) (by omega) (by simp) (.inr (.inr (by rw [ef, nv1, show topN + (topN - 1) + 1 = topN + topN from by omega]; omega))) (hw14.io mem1) (hw14.ibl mem0)) ?_
  rintro _ w15 ⟨vg, rfl, hG⟩
  have hw15 := hG _ _ _ _ hw14
  try clear hG hw14
  simp only [List.cons_append, List.nil_append] at hw15
  refine l_move rfl rfl rfl ?_
  refine l_extract rfl rfl rfl rfl ?_
  refine l_extract rfl rfl rfl rfl ?_
  refine l_assign rfl rfl rfl ?_
  refine l_assign rfl rfl rfl ?_
  refine l_nil ?_
  refine e_then ?_
  refine c_keep [1, 2, 4, 5, 6, 7, 8, 10] (.cons rfl (.cons rfl (.cons rfl (.cons rfl (.cons rfl (.cons rfl (.cons rfl (.cons rfl .nil)))))))) ?_
  refine c_seq ?_
  refine c_region ?_
  have hw16 := St.del .head hw15
  try clear hw15
  have hw17 := St.del .head hw16
  try clear hw16
  refine v_lit0 hw17 rfl rfl Try.underlying25 tz22 (fun v6_0 w18 hw18 => ?_)
  try clear hw17
  refine l_move rfl rfl rfl ?_
  refine v_append0 hw18 rfl rfl Try.underlying25 ti22 rfl rfl rfl (by first | exact hw18.io mem0 | exact hw18.io mem1 | exact hw18.io mem2 | exact hw18.io mem3 | exact hw18.io mem4 | assumption) (by first | exact ints_one _ _ | exact bys_one _ | simp [Value.oneCell']) (by first | (simp; done) | (simp; omega)) (by first | (simp; done) | (simp; omega)) (fun v6_2 w19 hw19 => ?_)
  try clear hw18
  refine v_lit hw19 rfl rfl Try.underlying25 ti22 rfl (.cons rfl (by first | rfl | assumption) .nil) rfl rfl rfl (fun b6_3 w20 hw20 => ?_)
  try clear hw19
  refine v_push hw20 rfl rfl Try.underlying25 ti22 rfl rfl rfl rfl (by first | (simp [Value.oneCell']; done) | (intro u hu; rw [List.mem_singleton.1 hu]; assumption)) (by first | (simp; done) | (simp; omega)) (by first | (simp; done) | (simp; omega)) (fun v6_4 w21 hw21 => ?_)
  try clear hw20
  refine l_assign rfl rfl rfl ?_
  refine l_nil ?_
  refine e_then ?_
  refine c_keep [1, 2, 4, 5, 6, 7, 8, 10, 11] (.cons rfl (.cons rfl (.cons rfl (.cons rfl (.cons rfl (.cons rfl (.cons rfl (.cons rfl (.cons rfl .nil))))))))) ?_
  refine c_seq ?_
  refine c_region ?_
  have hUb := (cnU hf).snoc (x := 1) (by omega)
  have hWf : nv lf < 18446744073709551616 ^ lf.length := Ma.vb_lt (show (0 : Int) < 18446744073709551616 by omega) (cnU hf).dg
  have eb := nv_snoc lf 1
  rw [Int.mul_one] at eb
  have hbo := blen_over (x := nv (lf ++ [1])) (by omega)
  have hbb : 8192 < Ma.blen (nv (lf ++ [1])) := by omega
  refine l_move rfl rfl rfl ?_
  refine l_call rfl rfl Try.func29 rfl rfl (.cons rfl (.cons rfl .nil)) (addLong (lb := []) hUb (fun x h => by cases h) (by simp; omega) (by simp) (.inl hbb) (by simpa [ints] using hw21.io mem0) (IV.nil _)) ?_
  rintro _ w22 ⟨vh, rfl, hG⟩
  have hw22 := hG _ _ _ _ hw21
  try clear hG hw21
  simp only [List.cons_append, List.nil_append] at hw22
  refine l_move rfl rfl rfl ?_
  refine l_extract rfl rfl rfl rfl ?_
  refine l_extract rfl rfl rfl rfl ?_
  refine l_assign rfl rfl rfl ?_
  refine l_assign rfl rfl rfl ?_
  refine l_nil ?_
  refine e_then ?_
  refine c_keep [1, 2, 4, 5, 6, 7, 8, 10, 11, 13] (.cons rfl (.cons rfl (.cons rfl (.cons rfl (.cons rfl (.cons rfl (.cons rfl (.cons rfl (.cons rfl (.cons rfl .nil)))))))))) ?_
  refine c_seq ?_
  refine c_region ?_
  have hw23 := St.del .head hw22
  try clear hw22
  refine l_move rfl rfl rfl ?_
  refine l_call rfl rfl Try.func32 rfl rfl (.cons rfl (.cons rfl .nil)) (shrLong hUb (by simp; omega) hbb (by simpa [ints] using hw23.io mem0)) ?_
  rintro _ w24 ⟨vz, bz, rfl, hG⟩
  have hw24 := hG _ _ _ _ hw23
  try clear hG hw23
  simp only [List.cons_append, List.nil_append] at hw24
  refine l_move rfl rfl rfl ?_
  refine l_extract rfl rfl rfl rfl ?_
  refine l_extract rfl rfl rfl rfl ?_
  refine l_extract rfl rfl rfl rfl ?_
  refine l_assign rfl rfl rfl ?_
  refine l_assign rfl rfl rfl ?_
  refine l_assign rfl rfl rfl ?_
  refine l_nil ?_
  refine e_then ?_
  refine c_keep [1, 2, 4, 5, 6, 7, 8, 10, 11, 13, 16] (.cons rfl (.cons rfl (.cons rfl (.cons rfl (.cons rfl (.cons rfl (.cons rfl (.cons rfl (.cons rfl (.cons rfl (.cons rfl .nil))))))))))) ?_
  refine c_seq ?_
  refine c_region ?_
  refine l_move rfl rfl rfl ?_
  refine l_call rfl rfl Try.func34 rfl rfl (.cons rfl (.cons rfl .nil)) (divLong (la := []) (fun x h => by cases h) hUb (by simp) (by simp; omega) hbb (IV.nil _) (by simpa [ints] using hw24.io mem0)) ?_
  rintro _ w25 ⟨vy, vz, rfl, hG⟩
  have hw25 := hG _ _ _ _ hw24
  try clear hG hw24
  simp only [List.cons_append, List.nil_append] at hw25
  refine l_move rfl rfl rfl ?_
  refine l_extract rfl rfl rfl rfl ?_
  refine l_extract rfl rfl rfl rfl ?_
  refine l_extract rfl rfl rfl rfl ?_
  refine l_assign rfl rfl rfl ?_
  refine l_assign rfl rfl rfl ?_
  refine l_assign rfl rfl rfl ?_
  refine l_nil ?_
  refine e_then ?_
  refine c_keep [1, 2, 4, 5, 6, 7, 8, 10, 11, 13, 16, 19] (.cons rfl (.cons rfl (.cons rfl (.cons rfl (.cons rfl (.cons rfl (.cons rfl (.cons rfl (.cons rfl (.cons rfl (.cons rfl (.cons rfl .nil)))))))))))) ?_
  refine c_seq ?_
  refine c_region ?_
  refine l_call rfl rfl Try.func10 rfl rfl (.cons rfl (.cons rfl .nil)) (powLong (w := w25)) ?_
  rintro _ w26 ⟨vz, rfl, hG⟩
  have hw26 := hG _ _ _ _ hw25
  try clear hG hw25
  simp only [List.cons_append, List.nil_append] at hw26
  refine l_move rfl rfl rfl ?_
  refine l_extract rfl rfl rfl rfl ?_
  refine l_extract rfl rfl rfl rfl ?_
  refine l_assign rfl rfl rfl ?_
  refine l_assign rfl rfl rfl ?_
  refine l_nil ?_
  refine e_then ?_
  refine c_keep [1, 2, 4, 5, 6, 7, 8, 10, 11, 13, 16, 19, 21] (.cons rfl (.cons rfl (.cons rfl (.cons rfl (.cons rfl (.cons rfl (.cons rfl (.cons rfl (.cons rfl (.cons rfl (.cons rfl (.cons rfl (.cons rfl .nil))))))))))))) ?_
  refine c_seq ?_
  refine c_region ?_
  refine l_call rfl rfl Try.func10 rfl rfl (.cons rfl (.cons rfl .nil)) (powT (w := w26)) ?_
  rintro _ w27 ⟨vp, lp, rfl, hp, hG⟩
  have hw27 := hG _ _ _ _ hw26
  try clear hG hw26
  simp only [List.cons_append, List.nil_append] at hw27
  refine l_move rfl rfl rfl ?_
  refine l_extract rfl rfl rfl rfl ?_
  refine l_extract rfl rfl rfl rfl ?_
  refine l_assign rfl rfl rfl ?_
  refine l_assign rfl rfl rfl ?_
  refine l_nil ?_
  refine e_then ?_
  refine c_keep [1, 2, 4, 5, 6, 7, 8, 10, 11, 13, 16, 19, 21, 22, 23] (.cons rfl (.cons rfl (.cons rfl (.cons rfl (.cons rfl (.cons rfl (.cons rfl (.cons rfl (.cons rfl (.cons rfl (.cons rfl (.cons rfl (.cons rfl (.cons rfl (.cons rfl .nil))))))))))))))) ?_
  refine c_seq ?_
  refine c_region ?_
  have llp := cn_len hp (k := 8192) (by omega)
  refine l_move rfl rfl rfl ?_
  refine l_call rfl rfl Try.func23 rfl rfl (.cons rfl .nil) (textN vf lf (cnU hf) (by omega) w27 (hw27.io mem2)) ?_
  rintro _ w28 ⟨rfl, hG⟩
  have hw28 := hG _ _ _ _ hw27
  try clear hG hw27
  simp only [List.cons_append, List.nil_append] at hw28
  refine l_assign rfl rfl rfl ?_
  refine l_nil ?_
  refine e_then ?_
  refine c_keep [1, 2, 4, 5, 6, 7, 8, 10, 11, 13, 16, 19, 21, 22, 23, 24] (.cons rfl (.cons rfl (.cons rfl (.cons rfl (.cons rfl (.cons rfl (.cons rfl (.cons rfl (.cons rfl (.cons rfl (.cons rfl (.cons rfl (.cons rfl (.cons rfl (.cons rfl (.cons rfl .nil)))))))))))))))) ?_
  refine c_seq ?_
  refine c_region ?_
  refine l_move rfl rfl rfl ?_
  refine l_call rfl rfl Try.func21 rfl rfl (.cons rfl .nil) (parse0 (n := nv lf) (by rw [ef]; omega) (by rw [ef]; omega) w28) ?_
  rintro _ w29 ⟨vk, lk, rfl, hk, hG⟩
  have hw29 := hG _ _ _ _ hw28
  try clear hG hw28
  simp only [List.cons_append, List.nil_append] at hw29
  refine l_move rfl rfl rfl ?_
  refine l_extract rfl rfl rfl rfl ?_
  refine l_extract rfl rfl rfl rfl ?_
  refine l_assign rfl rfl rfl ?_
  refine l_assign rfl rfl rfl ?_
  refine l_nil ?_
  refine e_then ?_
  refine c_keep [1, 2, 4, 5, 6, 7, 8, 10, 11, 13, 16, 19, 21, 22, 23, 24, 25, 26] (.cons rfl (.cons rfl (.cons rfl (.cons rfl (.cons rfl (.cons rfl (.cons rfl (.cons rfl (.cons rfl (.cons rfl (.cons rfl (.cons rfl (.cons rfl (.cons rfl (.cons rfl (.cons rfl (.cons rfl (.cons rfl .nil)))))))))))))))))) ?_
  refine c_seq ?_
  refine c_region ?_
  have hdl : ((dtx (nv lf)).length : Int) ≤ 8193 := by
    have h := dtx_len (n := nv lf) (by rw [ef]; omega)
    rw [show Ma.blen (nv lf) = 8192 from by rw [ef]; exact hbF] at h
    omega
  refine l_move rfl rfl rfl ?_
  refine l_adds rfl rfl rfl rfl (by first | omega | (simp only [List.length_append, List.length_cons, List.length_nil] at *; omega)) ?_
  refine l_call rfl rfl Try.func21 rfl rfl (.cons rfl .nil) (parseLong (n := nv lf) (by rw [ef]; omega) (by rw [ef]; omega) (by rw [ef]; omega) w29) ?_
  rintro _ w30 ⟨vz, rfl, hG⟩
  have hw30 := hG _ _ _ _ hw29
  try clear hG hw29
  simp only [List.cons_append, List.nil_append] at hw30
  refine l_move rfl rfl rfl ?_
  refine l_extract rfl rfl rfl rfl ?_
  refine l_extract rfl rfl rfl rfl ?_
  refine l_assign rfl rfl rfl ?_
  refine l_assign rfl rfl rfl ?_
  refine l_nil ?_
  refine e_then ?_
  refine c_keep [1, 2, 4, 5, 6, 7, 8, 10, 11, 13, 16, 19, 21, 22, 23, 25, 26, 28] (.cons rfl (.cons rfl (.cons rfl (.cons rfl (.cons rfl (.cons rfl (.cons rfl (.cons rfl (.cons rfl (.cons rfl (.cons rfl (.cons rfl (.cons rfl (.cons rfl (.cons rfl (.cons rfl (.cons rfl (.cons rfl .nil)))))))))))))))))) ?_
  refine c_seq ?_
  refine c_region ?_
  refine l_move rfl rfl rfl ?_
  refine l_move rfl rfl rfl ?_
  refine l_call rfl rfl Try.func38 rfl rfl (.cons rfl (.cons rfl .nil)) (subS hUb (cnU hf) (by simp; omega) (by omega) (by omega) (by simpa [ints] using hw30.io mem2) (hw30.io mem3)) ?_
  rintro _ w31 ⟨vl, ll, rfl, hl, hG⟩
  have hw31 := hG _ _ _ _ hw30
  try clear hG hw30
  simp only [List.cons_append, List.nil_append] at hw31
  refine l_move rfl rfl rfl ?_
  refine l_extract rfl rfl rfl rfl ?_
  refine l_extract rfl rfl rfl rfl ?_
  refine l_assign rfl rfl rfl ?_
  refine l_assign rfl rfl rfl ?_
  refine l_nil ?_
  refine e_then ?_
  refine c_keep [1, 2, 4, 5, 6, 7, 8, 10, 13, 16, 19, 21, 22, 23, 25, 26, 28, 29, 30] (.cons rfl (.cons rfl (.cons rfl (.cons rfl (.cons rfl (.cons rfl (.cons rfl (.cons rfl (.cons rfl (.cons rfl (.cons rfl (.cons rfl (.cons rfl (.cons rfl (.cons rfl (.cons rfl (.cons rfl (.cons rfl (.cons rfl .nil))))))))))))))))))) ?_
  refine c_seq ?_
  refine c_region ?_
  have llk := cn_len hk (k := 8192) (by rw [ef]; omega)
  have el : nv ll = nv (lf ++ [1]) - nv lf := hl.val
  have hbl := blen_over (x := nv ll) (by omega)
  have hbl2 := nv_blen hUb
  rw [List.length_append, List.length_singleton] at hbl2
  have hbl3 := Ma.blen_mono (a := nv ll) (b := nv (lf ++ [1])) (cnU hl).nv_nonneg (by have := (cnU hf).nv_nonneg; omega)
  have lll := cn_len hl (k := 64 * (lf.length + 1)) (by rw [← el]; omega)
  refine l_move rfl rfl rfl ?_
  refine l_callp rfl rfl Try.func12 rfl rfl (.cons rfl .nil) (numL _ _) ?_
  refine l_eql rfl rfl rfl rfl ?_
  refine l_turn (s := 117) (v' := .bool true) rfl (by rfl) ?_
  refine l_move rfl rfl rfl ?_
  refine l_move rfl rfl rfl ?_
  refine l_turn (s := 119) (v' := .bool true) rfl (by rfl) ?_
  refine l_pick_t rfl rfl rfl rfl ?_
  refine l_move rfl rfl rfl ?_
  refine l_move rfl rfl rfl ?_
  refine l_callp rfl rfl Try.func12 rfl rfl (.cons rfl .nil) (numL _ _) ?_
  refine l_eql rfl rfl rfl rfl ?_
  refine l_turn (s := 124) (v' := .bool true) rfl (by rfl) ?_
  refine l_pick_t rfl rfl rfl rfl ?_
  refine l_move rfl rfl rfl ?_
  refine l_move rfl rfl rfl ?_
  refine l_callp rfl rfl Try.func12 rfl rfl (.cons rfl .nil) (numL _ _) ?_
  refine l_eql rfl rfl rfl rfl ?_
  refine l_turn (s := 129) (v' := .bool true) rfl (by rfl) ?_
  refine l_pick_t rfl rfl rfl rfl ?_
  refine l_move rfl rfl rfl ?_
  refine l_move rfl rfl rfl ?_
  refine v_leni rfl rfl Try.underlying25 rfl (by first | exact hw31.io mem0 | exact hw31.io mem1 | exact hw31.io mem2 | exact hw31.io mem3 | exact hw31.io mem4 | exact hw31.io mem5 | exact hw31.io mem6 | exact hw31.io mem7 | assumption) ?_
  refine l_eql rfl rfl rfl rfl ?_
  refine l_turn (s := 134) (v' := .bool true) rfl (by rfl) ?_
  refine l_pick_t rfl rfl rfl rfl ?_
  refine l_move rfl rfl rfl ?_
  refine l_move rfl rfl rfl ?_
  refine l_callp rfl rfl Try.func37 rfl rfl (.cons rfl .nil) (lenV vf lf (cnU hf) (by omega) w31 (hw31.io mem4)) ?_
  refine l_eql rfl rfl rfl rfl ?_
  refine l_turn (s := 139) (v' := .bool true) rfl (by exact congrArg Value.bool (decide_eq_true (by rw [ef]; exact hbF))) ?_
  refine l_pick_t rfl rfl rfl rfl ?_
  refine l_move rfl rfl rfl ?_
  refine l_move rfl rfl rfl ?_
  refine l_callp rfl rfl Try.func12 rfl rfl (.cons rfl .nil) (numL _ _) ?_
  refine l_eql rfl rfl rfl rfl ?_
  refine l_turn (s := 144) (v' := .bool true) rfl (by rfl) ?_
  refine l_pick_t rfl rfl rfl rfl ?_
  refine l_assign rfl rfl rfl ?_
  refine l_nil ?_
  refine e_then ?_
  refine c_keep [1, 7, 13, 16, 19, 21, 22, 23, 25, 26, 28, 29, 30, 31] (.cons rfl (.cons rfl (.cons rfl (.cons rfl (.cons rfl (.cons rfl (.cons rfl (.cons rfl (.cons rfl (.cons rfl (.cons rfl (.cons rfl (.cons rfl (.cons rfl .nil)))))))))))))) ?_
  refine c_seq ?_
  refine c_region ?_
  refine l_move rfl rfl rfl ?_
  refine l_callp rfl rfl Try.func12 rfl rfl (.cons rfl .nil) (numL _ _) ?_
  refine l_eql rfl rfl rfl rfl ?_
  refine l_turn (s := 148) (v' := .bool true) rfl (by rfl) ?_
  refine l_move rfl rfl rfl ?_
  refine l_move rfl rfl rfl ?_
  refine l_callp rfl rfl Try.func12 rfl rfl (.cons rfl .nil) (numL _ _) ?_
  refine l_eql rfl rfl rfl rfl ?_
  refine l_turn (s := 152) (v' := .bool true) rfl (by rfl) ?_
  refine l_pick_t rfl rfl rfl rfl ?_
  refine l_move rfl rfl rfl ?_
  refine l_move rfl rfl rfl ?_
  refine l_callp rfl rfl Try.func12 rfl rfl (.cons rfl .nil) (numL _ _) ?_
  refine l_eql rfl rfl rfl rfl ?_
  refine l_turn (s := 157) (v' := .bool true) rfl (by rfl) ?_
  refine l_pick_t rfl rfl rfl rfl ?_
  refine l_move rfl rfl rfl ?_
  refine l_move rfl rfl rfl ?_
  refine l_callp rfl rfl Try.func12 rfl rfl (.cons rfl .nil) (numL _ _) ?_
  refine l_eql rfl rfl rfl rfl ?_
  refine l_turn (s := 162) (v' := .bool true) rfl (by rfl) ?_
  refine l_pick_t rfl rfl rfl rfl ?_
  refine l_move rfl rfl rfl ?_
  refine l_move rfl rfl rfl ?_
  refine l_callp rfl rfl Try.func12 rfl rfl (.cons rfl .nil) (numL _ _) ?_
  refine l_eql rfl rfl rfl rfl ?_
  refine l_turn (s := 167) (v' := .bool true) rfl (by rfl) ?_
  refine l_pick_t rfl rfl rfl rfl ?_
  refine l_move rfl rfl rfl ?_
  refine l_move rfl rfl rfl ?_
  refine l_move rfl rfl rfl ?_
  refine l_call rfl rfl Try.func33 rfl rfl (.cons rfl (.cons rfl .nil)) (cmpN _ _ lp lt (cnU hp) (cnU ht) (by omega) (by omega) w31 (hw31.io mem2) (hw31.io mem7)) ?_
  rintro _ w32 ⟨rfl, hG⟩
  have hw32 := hG _ _ _ _ hw31
  try clear hG hw31
  simp only [List.cons_append, List.nil_append] at hw32
  refine l_eql rfl rfl rfl rfl ?_
  refine l_turn (s := 173) (v' := .bool true) rfl (by exact congrArg Value.bool (decide_eq_true (cmpI_eq (hp.val.trans et.symm)))) ?_
  refine l_pick_t rfl rfl rfl rfl ?_
  refine l_assign rfl rfl rfl ?_
  refine l_nil ?_
  refine e_then ?_
  refine c_keep [7, 25, 26, 28, 29, 30, 31, 32] (.cons rfl (.cons rfl (.cons rfl (.cons rfl (.cons rfl (.cons rfl (.cons rfl (.cons rfl .nil)))))))) ?_
  refine c_seq ?_
  refine c_region ?_
  refine l_move rfl rfl rfl ?_
  refine l_move rfl rfl rfl ?_
  refine l_move rfl rfl rfl ?_
  refine l_pick_t rfl rfl rfl rfl ?_
  refine l_move rfl rfl rfl ?_
  refine l_move rfl rfl rfl ?_
  refine l_callp rfl rfl Try.func12 rfl rfl (.cons rfl .nil) (numL _ _) ?_
  refine l_eql rfl rfl rfl rfl ?_
  refine l_turn (s := 182) (v' := .bool true) rfl (by rfl) ?_
  refine l_pick_t rfl rfl rfl rfl ?_
  refine l_move rfl rfl rfl ?_
  refine l_move rfl rfl rfl ?_
  refine l_move rfl rfl rfl ?_
  refine l_call rfl rfl Try.func33 rfl rfl (.cons rfl (.cons rfl .nil)) (cmpN _ _ lk lf (cnU hk) (cnU hf) (by omega) (by omega) w32 (hw32.io mem1) (hw32.io mem4)) ?_
  rintro _ w33 ⟨rfl, hG⟩
  have hw33 := hG _ _ _ _ hw32
  try clear hG hw32
  simp only [List.cons_append, List.nil_append] at hw33
  refine l_eql rfl rfl rfl rfl ?_
  refine l_turn (s := 188) (v' := .bool true) rfl (by exact congrArg Value.bool (decide_eq_true (cmpI_eq hk.val))) ?_
  refine l_pick_t rfl rfl rfl rfl ?_
  refine l_move rfl rfl rfl ?_
  refine l_move rfl rfl rfl ?_
  refine l_callp rfl rfl Try.func12 rfl rfl (.cons rfl .nil) (numL _ _) ?_
  refine l_eql rfl rfl rfl rfl ?_
  refine l_turn (s := 193) (v' := .bool true) rfl (by rfl) ?_
  refine l_pick_t rfl rfl rfl rfl ?_
  refine l_move rfl rfl rfl ?_
  refine l_move rfl rfl rfl ?_
  refine l_turn (s := 196) (v' := .bool true) rfl (by rfl) ?_
  refine l_pick_t rfl rfl rfl rfl ?_
  refine l_move rfl rfl rfl ?_
  refine l_move rfl rfl rfl ?_
  refine l_callp rfl rfl Try.func37 rfl rfl (.cons rfl .nil) (lenV vl ll (cnU hl) (by omega) w33 (hw33.io mem0)) ?_
  refine l_gtr rfl rfl rfl rfl ?_
  refine l_turn (s := 201) (v' := .bool true) rfl (by exact congrArg Value.bool (decide_eq_true (by omega))) ?_
  refine l_pick_t rfl rfl rfl rfl ?_
  refine l_move rfl rfl rfl ?_
  refine l_pick_t rfl rfl rfl rfl ?_
  refine l_move rfl rfl rfl ?_
  refine l_call rfl rfl Try.func19 rfl rfl .nil (wakesL w33) ?_
  rintro _ w34 ⟨rfl, hG⟩
  have hw34 := hG _ _ _ _ hw33
  try clear hG hw33
  simp only [List.cons_append, List.nil_append] at hw34
  refine l_turn (s := 206) (v' := .bool true) rfl (by rfl) ?_
  refine l_pick_t rfl rfl rfl rfl ?_
  refine l_assign rfl rfl rfl ?_
  refine l_nil ?_
  refine e_then ?_
  refine c_keep [0] (.cons rfl .nil) ?_
  refine c_ret ?_
  refine e_done1 Try.results9 rfl ?_
  refine ⟨_, rfl, ?_⟩
  have hw35 := St.del (.tail (.tail (.tail (.tail (.tail (.tail (.tail .head))))))) hw34
  try clear hw34
  have hw36 := St.del (.tail (.tail (.tail (.tail (.tail (.tail .head)))))) hw35
  try clear hw35
  have hw37 := St.del (.tail (.tail (.tail (.tail (.tail .head))))) hw36
  try clear hw36
  have hw38 := St.del (.tail (.tail (.tail (.tail .head)))) hw37
  try clear hw37
  have hw39 := St.del (.tail (.tail (.tail .head))) hw38
  try clear hw38
  have hw40 := St.del (.tail (.tail .head)) hw39
  try clear hw39
  have hw41 := St.del (.tail .head) hw40
  try clear hw40
  have hw42 := St.del .head hw41
  try clear hw41
  exact ⟨rfl, hw42.grows⟩
end Go.Proofs.Ytnddfmjmeghkjaa.W
