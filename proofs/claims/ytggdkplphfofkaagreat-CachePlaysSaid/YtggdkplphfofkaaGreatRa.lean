/- walks of the reference's numbers of base 65536 -/
import Derived.Test.YtggdkplphfofkaaGreatFa
import Derived.Test.YtggdkplphfofkaaGreatMa
set_option linter.unusedVariables false
set_option linter.unusedSimpArgs false
set_option maxRecDepth 10000
namespace Go.Proofs.YtggdkplphfofkaaGreat.W
open Go.Vc Go.RowKit
abbrev D16 (l : List Int) : Prop := Rg 0 65535 l
theorem D16.dg {l : List Int} (h : D16 l) : Ma.Dg 65536 l := fun x hx => by have := h x hx; omega
theorem D16.of_dg {l : List Int} (h : Ma.Dg 65536 l) : D16 l := fun x hx => by have := h x hx; omega
abbrev rv (l : List Int) : Int := Ma.vb 65536 l
theorem D16.rv_nonneg {l : List Int} (h : D16 l) : 0 ≤ rv l := Ma.vb_nonneg (by omega) h.dg
theorem D16.append {l m : List Int} (h : D16 l) (k : D16 m) : D16 (l ++ m) := fun y hy => (List.mem_append.1 hy).elim (h y) (k y)
theorem D16.one {x : Int} (h : 0 ≤ x ∧ x ≤ 65535) : D16 [x] := fun y hy => by rw [List.mem_singleton.1 hy]; exact h
theorem D16.snoc {l : List Int} (h : D16 l) {x : Int} (hx : 0 ≤ x ∧ x ≤ 65535) : D16 (l ++ [x]) := h.append (D16.one hx)
theorem D16.nil : D16 [] := fun _ h => by cases h
theorem D16.tr {l : List Int} (h : D16 l) : D16 (Ma.tr l) := D16.of_dg h.dg.tr
theorem getD_out {l : List Int} {k : Nat} (h : l.length ≤ k) : l.getD k 0 = 0 := by simp [List.getD, h]
theorem rv_snoc (l : List Int) (x : Int) : rv (l ++ [x]) = rv l + 65536 ^ l.length * x := by simp [Ma.vb_append, Ma.vb]
theorem getD_d {l : List Int} (h : D16 l) (j : Nat) : 0 ≤ l.getD j 0 ∧ l.getD j 0 ≤ 65535 := by
 rcases Nat.lt_or_ge j l.length with hj | hj
 ·exact h.get hj
 ·simp [List.getD, hj]
abbrev R16 (l : List Int) (n : Int) : Prop := Ma.Cn 65536 l n
theorem R16.d {l : List Int} {n : Int} (h : R16 l n) : D16 l := D16.of_dg h.dg
theorem trimR (A : Option Addr) (c : Nat) (l : List Int) (hD : D16 l) (hL : l.length ≤ 17592186044416) (w : World) (hv : IV w (.slice A (ints .i64 l).length c) (ints .i64 l)) :
  CallsV P 58 [.slice A (ints .i64 l).length c] w fun r w' => r = .slice A (Ma.tr l).length c ∧ w = w' := by
 refine enterW Tryz.func58 rfl Tryz.ntmps58 rfl ?_
 refine c_seq (c_region (l_assign rfl rfl rfl (l_nil (e_then ?_))))
 refine c_keep [0] (.cons rfl .nil) ?_
 refine c_seq (c_region (l_move rfl rfl rfl ?_))
 refine v_leni rfl rfl Tryz.underlying32 rfl (by first | exact hv | assumption) ?_
 refine l_assign rfl rfl rfl (l_nil (e_then ?_))
 refine c_keep [0, 3] (.cons rfl (.cons rfl .nil)) ?_
 refine c_seq (c_block ?_)
 refine c_loopk (ι := Nat) (fun (k : Nat) => k) (fun (k : Nat) (w' : World) => w = w' ∧ k ≤ l.length ∧ ∀ j, k ≤ j → l.getD j 0 = 0) (fun (k : Nat) => [(3, .int .i64 (k : Int))]) [0] (l.length) ?_ (.cons rfl .nil) ?_ ?_
 ·exact ⟨rfl, Nat.le_refl _, fun j hj => by simp [List.getD, hj]⟩
 ·exact (.cons rfl (by first | rfl | (refine congrArg (Value.int _) ?_; omega)) .nil)
 rintro k _ ⟨rfl, hk, hz⟩
 show RunC P _ _ _ (_ :: _) _
 refine c_seq (c_seq (c_region (l_move rfl rfl rfl ?_)))
 refine l_gtr rfl rfl rfl rfl ?_
 refine l_move rfl rfl rfl ?_
 apply l_and 6 [0, 3] rfl rfl (.cons rfl (.cons rfl (.cons rfl .nil))) rfl rfl (fun _ => rfl) rfl rfl rfl
 ·intro hg2_3
  refine l_move rfl rfl rfl (l_move rfl rfl rfl ?_)
  refine l_sub rfl rfl rfl rfl (w_i64 (by omega)) ?_
  refine v_getr (j := k - 1) rfl rfl rfl rfl Tryz.underlying32 tz3 Tryz.underlying3 rfl rfl (by first | exact hv | assumption) (by assumption) rfl (by omega) (by first | omega | (simp; done) | (simp; omega)) (fun hb2_6 => ?_)
  refine l_eql rfl rfl rfl rfl ?_
  refine l_nil ?_
  exact e_stays rfl (.cons rfl (congrArg Value.bool (decide_eq_true hg2_3).symm) (.cons rfl rfl (.cons rfl rfl .nil)))
 refine l_nil (e_then ?_)
 refine c_keep [0, 3, 15] (.cons rfl (.cons rfl (.cons rfl .nil))) ?_
 first | refine c_cond rfl (fun hc0 => ?_) (fun hc0 => ?_) | refine c_condb rfl (fun hc0 => ?_) (fun hc0 => ?_)
 ·skip
  refine c_skip (e_then ?_)
  refine c_keep [0, 3] (.cons rfl (.cons rfl .nil)) ?_
  refine c_block (c_region (l_move rfl rfl rfl ?_))
  refine l_sub rfl rfl rfl rfl (w_i64 (by omega)) ?_
  refine l_assign rfl rfl rfl (l_nil ?_)
  refine e_blk ?_
  refine e_againk (i := (k)) (k - 1) ?_ ?_ (.cons rfl .nil) ?_
  ·first | omega | (simp; omega)
  ·refine ⟨rfl, by omega, fun j hj => ?_⟩
   rcases Nat.lt_or_ge j k with h | h
   ·obtain rfl : j = k - 1 := by omega
    exact hc0.2
   ·exact hz j h
  ·exact (.cons rfl (by first | rfl | (refine congrArg (Value.int _) ?_; omega)) .nil)
 ·skip
  refine c_exit ?_
  refine e_then_exit ?_
  refine e_then_exit ?_
  refine e_blk_exit ?_
  refine e_then ?_
  refine c_keep [0, 3] (.cons rfl (.cons rfl .nil)) ?_
  refine c_seq (c_region (l_move rfl rfl rfl (l_move rfl rfl rfl ?_)))
  refine v_head (h := k) rfl rfl Tryz.underlying32 tz3 rfl rfl (by first | exact hv | assumption) (by first | rfl | omega) (by first | omega | (simp; done) | (simp; omega)) (fun A4_2 c4_2 h4_2 => ?_)
  injection h4_2 with e1 e2 e3
  subst e1 e3
  refine l_assign rfl rfl rfl (l_nil (e_then ?_))
  refine c_keep [2] (.cons rfl .nil) ?_
  refine c_ret ?_
  refine e_done1 Tryz.results58 rfl ?_
  refine ⟨_, rfl, ?_⟩
  refine ⟨?_, rfl⟩
  rw [Ma.tr_len_unique hk hz (fun h e => hc0 ⟨by omega, e⟩)]
theorem trimR_turn {v : Value} {l : List Int} (hD : D16 l) (hL : l.length ≤ 17592186044416) {w : World} (hv : IV w v (ints .i64 l)) : CallsV P 58 [v] w fun r w' => ∃ v', r = v' ∧ Turn w w' (As.ri 3 .i64 v l) (As.ri 3 .i64 v' (Ma.tr l)) ∧ IV w' v' (ints .i64 (Ma.tr l)) := by
 obtain ⟨A, c, rfl, hc, hs⟩ := hv
 have hv : IV w (.slice A (ints .i64 l).length c) (ints .i64 l) := ⟨A, c, rfl, hc, hs⟩
 refine (trimR A c l hD hL w hv).mono ?_
 rintro r _ ⟨rfl, rfl⟩
 have h := Ma.tr_take l
 have e : ints .i64 (Ma.tr l) = (ints .i64 l).take (Ma.tr l).length := by rw [← List.map_take, ← h.1]
 have hl : (Ma.tr l).length ≤ (ints .i64 l).length := by simpa using h.2.1
 refine ⟨_, rfl, fun w0 B M σ σ' u hw => ?_, ?_⟩
 ·unfold As.ri at u
  rw [e] at u
  exact hw.head u hl
 ·rw [e]; exact hv.head hl
theorem p4 (k : Nat) : (65536 : Int) ^ (4 * k) = 18446744073709551616 ^ k := by rw [Int.pow_mul]; rfl
def word (l : List Int) (i k : Nat) : Int := Ma.vb 65536 ((l.drop (i + k)).take (4 - k))
theorem word_four (l : List Int) (i : Nat) : word l i 4 = 0 := by simp [word, Ma.vb]
theorem word_in {l : List Int} {i k : Nat} (h0 : 0 < k) (h4 : k ≤ 4) (h : i + (k - 1) < l.length) : word l i (k - 1) = word l i k * 65536 + l.getD (i + (k - 1)) 0 := by
 obtain ⟨k, rfl⟩ : ∃ m, k = m + 1 := ⟨k - 1, by omega⟩
 have e : l.getD (i + k) 0 = l[i + k] := by simp [List.getD, show i + k < l.length from h]
 show Ma.vb 65536 ((l.drop (i + k)).take (4 - k)) = Ma.vb 65536 ((l.drop (i + (k + 1))).take (4 - (k + 1))) * 65536 + l.getD (i + k) 0
 rw [e, List.drop_eq_getElem_cons (show i + k < l.length from h), show 4 - k = (4 - (k + 1)) + 1 from by omega, List.take_succ_cons, Ma.vb]
 rw [Int.mul_comm 65536, show i + (k + 1) = i + k + 1 from rfl]; omega
theorem word_out {l : List Int} {i k : Nat} (h0 : 0 < k) (h : l.length ≤ i + (k - 1)) : word l i (k - 1) = word l i k * 65536 := by
 unfold word
 rw [List.drop_eq_nil_of_le h, List.drop_eq_nil_of_le (show l.length ≤ i + k by omega)]
 simp [Ma.vb]
theorem word_take (l : List Int) {i : Nat} (h : i ≤ l.length) : rv (l.take (i + 4)) = rv (l.take i) + 65536 ^ i * word l i 0 := by
 show Ma.vb _ _ = _
 rw [List.take_add, Ma.vb_append, List.length_take, Nat.min_eq_left h]
 rfl
theorem wordsR (v : Value) (l : List Int) (n : Int) (hR : R16 l n) (hL : l.length ≤ 17592186044416) (w : World) (hv : IV w v (ints .i64 l)) :
  CallsV P 53 [v] w fun r w' => ∃ v ls, r = v ∧ Ma.Cn 18446744073709551616 ls n ∧ Grow w w' [As.ri 65 .u64 v ls] := by
 refine enterW Tryz.func53 rfl Tryz.ntmps53 rfl ?_
 have hw0 := St.start w
 have hD := hR.d
 refine c_seq (c_region (l_assign rfl rfl rfl (l_nil (e_then ?_))))
 refine c_keep [0] (.cons rfl .nil) ?_
 refine c_seq (c_region (l_assign rfl rfl rfl (l_nil (e_then (c_seq ?_)))))
 refine c_seq (c_region (l_assign rfl rfl rfl (l_nil (e_then (c_block ?_)))))
 refine c_loopk (ι := Nat × List Int × Value) (fun (z0 : Nat × List Int × Value) => match z0 with | ⟨k, o, vo⟩ => l.length + 4 - 4 * k) (fun (z0 : Nat × List Int × Value) (w' : World) => match z0 with | ⟨k, o, vo⟩ => St w w.heap.size None' ([As.ri 65 .u64 vo o]) w' ∧ 4 * k ≤ l.length + 3 ∧ o.length = k ∧ Rg 0 18446744073709551615 o ∧ Ma.vb 18446744073709551616 o = rv (l.take (4 * k))) (fun (z0 : Nat × List Int × Value) => match z0 with | ⟨k, o, vo⟩ => [(3, vo), (4, .int .i64 ((4 * k : Nat) : Int))]) [0] (0, [], .slice none 0 0) ?_ (.cons rfl .nil) ?_ ?_
 ·exact ⟨hw0.nil 65, by omega, rfl, (fun _ h => by cases h), by simp [Ma.vb]⟩
 ·exact (.cons rfl (by first | rfl | (refine congrArg (Value.int _) ?_; omega)) (.cons rfl (by first | rfl | (refine congrArg (Value.int _) ?_; omega)) .nil))
 rintro ⟨k, o, vo⟩ w1 ⟨hw1, hk, hol, hUo, hvo⟩
 show RunC P _ _ _ (_ :: _) _
 refine c_seq (c_seq (c_region (l_move rfl rfl rfl (l_move rfl rfl rfl ?_))))
 refine v_leni rfl rfl Tryz.underlying32 rfl (by first | exact hw1.io mem0 | exact hw1.iarg hv | assumption) ?_
 refine l_lss rfl rfl rfl rfl ?_
 refine l_nil (e_then ?_)
 refine c_keep [0, 3, 4, 10] (.cons rfl (.cons rfl (.cons rfl (.cons rfl .nil)))) ?_
 first | refine c_cond rfl (fun hc0 => ?_) (fun hc0 => ?_) | refine c_condb rfl (fun hc0 => ?_) (fun hc0 => ?_)
 ·skip
  refine c_skip (e_then ?_)
  refine c_keep [0, 3, 4] (.cons rfl (.cons rfl (.cons rfl .nil))) ?_
  refine c_seq (c_block (c_seq (c_region (l_assign rfl rfl rfl (l_nil ?_)))))
  refine e_then (c_seq (c_seq (c_region (l_assign rfl rfl rfl (l_nil ?_)))))
  refine e_then (c_block ?_)
  refine c_loopk (ι := Nat × Int) (fun (z0 : Nat × Int) => match z0 with | ⟨kk, ww⟩ => kk) (fun (z0 : Nat × Int) (w' : World) => match z0 with | ⟨kk, ww⟩ => St w w.heap.size None' ([As.ri 65 .u64 vo o]) w' ∧ kk ≤ 4 ∧ 0 ≤ ww ∧ (kk = 4 → ww = 0) ∧ (kk = 3 → ww ≤ 65535) ∧ (kk = 2 → ww ≤ 4294967295) ∧ (kk = 1 → ww ≤ 281474976710655) ∧ (kk = 0 → ww ≤ 18446744073709551615) ∧ ww = word l (4 * k) kk) (fun (z0 : Nat × Int) => match z0 with | ⟨kk, ww⟩ => [(5, .int .u64 ww), (6, .int .i64 ((kk : Int) - 1))]) [0, 3, 4] (4, 0) ?_ (.cons rfl (.cons rfl (.cons rfl .nil))) ?_ ?_
  ·exact ⟨hw1, by omega, by omega, by omega, by omega, by omega, by omega, by omega, (word_four l _).symm⟩
  ·exact (.cons rfl (by first | rfl | (refine congrArg (Value.int _) ?_; omega)) (.cons rfl (by first | rfl | (refine congrArg (Value.int _) ?_; omega)) .nil))
  rintro ⟨kk, ww⟩ w2 ⟨hw2, hkk, hww, hb4, hb3, hb2, hb1, hb0, hval⟩
  show RunC P _ _ _ (_ :: _) _
  have hkk0 : kk = 0 ∨ kk = 1 ∨ kk = 2 ∨ kk = 3 ∨ kk = 4 := by omega
  have hw64 : 0 < kk → ww * 65536 ≤ 18446744073709486080 := by omega
  refine c_seq (c_seq (c_region (l_move rfl rfl rfl ?_)))
  refine l_geq rfl rfl rfl rfl ?_
  refine l_nil (e_then ?_)
  refine c_keep [0, 3, 4, 5, 6, 14] (.cons rfl (.cons rfl (.cons rfl (.cons rfl (.cons rfl (.cons rfl .nil)))))) ?_
  first | refine c_cond rfl (fun hc1 => ?_) (fun hc1 => ?_) | refine c_condb rfl (fun hc1 => ?_) (fun hc1 => ?_)
  ·skip
   refine c_skip (e_then ?_)
   refine c_keep [0, 3, 4, 5, 6] (.cons rfl (.cons rfl (.cons rfl (.cons rfl (.cons rfl .nil))))) ?_
   refine c_seq (c_block (c_seq (c_region (l_move rfl rfl rfl ?_))))
   refine l_mul rfl rfl rfl rfl (w_u64 (by omega)) ?_
   refine l_assign rfl rfl rfl (l_nil (e_then ?_))
   refine c_keep [0, 3, 4, 5, 6] (.cons rfl (.cons rfl (.cons rfl (.cons rfl (.cons rfl .nil))))) ?_
   refine c_seq (c_region (l_move rfl rfl rfl (l_move rfl rfl rfl ?_)))
   refine l_add rfl rfl rfl rfl (w_i64 (by omega)) ?_
   refine l_move rfl rfl rfl ?_
   refine v_leni rfl rfl Tryz.underlying32 rfl (by first | exact hw2.io mem0 | exact hw2.iarg hv | assumption) ?_
   refine l_lss rfl rfl rfl rfl ?_
   refine l_nil (e_then ?_)
   refine c_keep [0, 3, 4, 5, 6, 24] (.cons rfl (.cons rfl (.cons rfl (.cons rfl (.cons rfl (.cons rfl .nil)))))) ?_
   first | refine c_cond rfl (fun hc2 => ?_) (fun hc2 => ?_) | refine c_condb rfl (fun hc2 => ?_) (fun hc2 => ?_)
   ·skip
    refine c_region (l_move rfl rfl rfl (l_move rfl rfl rfl (l_move rfl rfl rfl (l_move rfl rfl rfl ?_))))
    refine l_add rfl rfl rfl rfl (w_i64 (by omega)) ?_
    refine v_getr (j := 4 * k + (kk - 1)) rfl rfl rfl rfl Tryz.underlying32 tz3 Tryz.underlying3 rfl rfl (by first | exact hw2.io mem0 | exact hw2.iarg hv | assumption) (by assumption) rfl (by omega) (by first | omega | (simp; done) | (simp; omega)) (fun hb11_5 => ?_)
    refine l_conv rfl rfl Tryz.underlying3 Tryz.underlying65 rfl (w_u64 (by omega)) ?_
    refine l_add rfl rfl rfl rfl (w_u64 (by omega)) ?_
    refine l_assign rfl rfl rfl (l_nil ?_)
    refine e_blk ?_
    refine e_then ?_
    refine c_keep [0, 3, 4, 5, 6] (.cons rfl (.cons rfl (.cons rfl (.cons rfl (.cons rfl .nil))))) ?_
    refine c_region (l_move rfl rfl rfl ?_)
    refine l_sub rfl rfl rfl rfl (w_i64 (by omega)) ?_
    refine l_assign rfl rfl rfl (l_nil ?_)
    refine e_againk (i := (kk, ww)) (kk - 1, ww * 65536 + l.getD (4 * k + (kk - 1)) 0) ?_ ?_ (.cons rfl (.cons rfl (.cons rfl .nil))) ?_
    ·first | omega | (simp; omega)
    ·exact ⟨hw2, by omega, by omega, by omega, by omega, by omega, by omega, by omega, by rw [word_in (by omega) hkk (by omega), hval]⟩
    ·exact (.cons rfl (by first | rfl | (refine congrArg (Value.int _) ?_; omega)) (.cons rfl (by first | rfl | (refine congrArg (Value.int _) ?_; omega)) .nil))
   ·skip
    refine c_skip ?_
    refine e_blk ?_
    refine e_then ?_
    refine c_keep [0, 3, 4, 5, 6] (.cons rfl (.cons rfl (.cons rfl (.cons rfl (.cons rfl .nil))))) ?_
    refine c_region (l_move rfl rfl rfl ?_)
    refine l_sub rfl rfl rfl rfl (w_i64 (by omega)) ?_
    refine l_assign rfl rfl rfl (l_nil ?_)
    refine e_againk (i := (kk, ww)) (kk - 1, ww * 65536) ?_ ?_ (.cons rfl (.cons rfl (.cons rfl .nil))) ?_
    ·first | omega | (simp; omega)
    ·exact ⟨hw2, by omega, by omega, by omega, by omega, by omega, by omega, by omega, by rw [word_out (by omega) (by omega), hval]⟩
    ·exact (.cons rfl (by first | rfl | (refine congrArg (Value.int _) ?_; omega)) (.cons rfl (by first | rfl | (refine congrArg (Value.int _) ?_; omega)) .nil))
  ·skip
   refine c_exit ?_
   refine e_then_exit ?_
   refine e_then_exit ?_
   refine e_blk_exit ?_
   refine e_then ?_
   refine c_keep [0, 3, 4, 5] (.cons rfl (.cons rfl (.cons rfl (.cons rfl .nil)))) ?_
   refine c_region (l_move rfl rfl rfl (l_move rfl rfl rfl ?_))
   refine v_lit hw2 rfl rfl Tryz.underlying117 ti65 rfl (.cons rfl (by first | rfl | assumption) .nil) rfl rfl rfl (fun b12_2 w3 hw3 => ?_)
   try clear hw2
   refine v_push hw3 rfl rfl Tryz.underlying117 ti65 rfl rfl rfl rfl (by first | (simp [Value.oneCell']; done) | (intro u hu; rw [List.mem_singleton.1 hu]; assumption)) (by first | (simp; done) | (simp; omega)) (by first | (simp; done) | (simp; omega)) (fun v12_3 w4 hw4 => ?_)
   try clear hw3
   refine l_assign rfl rfl rfl (l_nil ?_)
   refine e_blk ?_
   refine e_then ?_
   refine c_keep [0, 3, 4] (.cons rfl (.cons rfl (.cons rfl .nil))) ?_
   refine c_region (l_move rfl rfl rfl ?_)
   refine l_add rfl rfl rfl rfl (w_i64 (by omega)) ?_
   refine l_assign rfl rfl rfl (l_nil ?_)
   refine e_againk (i := (k, o, vo)) (k + 1, o ++ [ww], v12_3) ?_ ?_ (.cons rfl .nil) ?_
   ·first | omega | (simp; omega)
   ·have hkk : kk = 0 := by omega
    subst hkk
    refine ⟨hw4.cast (by rw [ints_snoc]), by omega, by simp; omega, fun y hy => (List.mem_append.1 hy).elim (hUo y) (fun h => by rw [List.mem_singleton.1 h]; omega), ?_⟩
    rw [Ma.vb_append, hvo, hol, ← p4]
    have e := word_take l (i := 4 * k) (by omega)
    simp only [Ma.vb, Int.mul_zero, Int.add_zero]
    rw [show 4 * (k + 1) = 4 * k + 4 from by omega, e, hval]
   ·exact (.cons rfl (by first | rfl | (refine congrArg (Value.int _) ?_; omega)) (.cons rfl (by first | rfl | (refine congrArg (Value.int _) ?_; omega)) .nil))
 ·skip
  refine c_exit ?_
  refine e_then_exit ?_
  refine e_then_exit ?_
  refine e_blk_exit ?_
  refine e_then ?_
  refine c_keep [3] (.cons rfl .nil) ?_
  refine c_seq (c_region (l_move rfl rfl rfl (l_assign rfl rfl rfl (l_nil (e_then ?_)))))
  refine c_keep [2] (.cons rfl .nil) ?_
  refine c_ret ?_
  refine e_done1 Tryz.results53 rfl ?_
  refine ⟨_, rfl, ?_⟩
  refine ⟨_, _, rfl, ?_, hw1.grows⟩
  rw [List.take_of_length_le (by omega)] at hvo
  have hn : Ma.vb 18446744073709551616 o = n := hvo.trans hR.val
  refine ⟨fun x hx => by have := hUo x hx; omega, Ma.Tr.of_ge (show (1 : Int) < 18446744073709551616 by omega) (fun x hx => by have := hUo x hx; omega) fun hne => ?_, hn⟩
  rw [hvo, hol, ← p4]
  have hp := Ma.Tr.pos (show (0 : Int) < 65536 by omega) hR.dg hR.tr (by intro e; subst e; simp at hc0; apply hne; exact List.eq_nil_of_length_eq_zero (by simp at hk; omega))
  have hpm : (65536 : Int) ^ (4 * (k - 1)) ≤ 65536 ^ (l.length - 1) := Ma.pow_mono (by omega) (by omega)
  exact Int.le_trans hpm hp
end Go.Proofs.YtggdkplphfofkaaGreat.W
