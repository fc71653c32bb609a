/- walks of the reference's numbers of base 65536 -/
import Derived.Test.YtojjlipcjdaejaaDoorFa
import Derived.Test.YtojjlipcjdaejaaDoorMa
set_option linter.unusedVariables false
set_option linter.unusedSimpArgs false
set_option maxRecDepth 10000
namespace Go.Proofs.YtojjlipcjdaejaaDoor.W
open Go.Vc Go.RowKit
abbrev D16 (l : List Int) : Prop := Rg 0 65535 l
theorem D16.dg {l : List Int} (h : D16 l) : Ma.Dg 65536 l := fun x hx => by have := h x hx; omega
theorem D16.of_dg {l : List Int} (h : Ma.Dg 65536 l) : D16 l := fun x hx => by have := h x hx; omega
abbrev rv (l : List Int) : Int := Ma.vb 65536 l
theorem D16.rv_nonneg {l : List Int} (h : D16 l) : 0 ≤ rv l := Ma.vb_nonneg (by omega) h.dg
theorem D16.append {l m : List Int} (h : D16 l) (k : D16 m) : D16 (l ++ m) := fun y hy => (List.mem_append.1 hy).elim (h y) (k y)
theorem D16.one {x : Int} (h : 0 ≤ x ∧ x ≤ 65535) : D16 [x] := fun y hy => by rw [List.mem_singleton.1 hy]; exact h
theorem D16.snoc {l : List Int} (h : D16 l) {x : Int} (hx : 0 ≤ x ∧ x ≤ 65535) : D16 (l ++ [x]) := h.append (D16.one hx)
theorem D16.nil : D16 [] := fun _ h => by cases h
theorem D16.tr {l : List Int} (h : D16 l) : D16 (Ma.tr l) := D16.of_dg h.dg.tr
theorem getD_out {l : List Int} {k : Nat} (h : l.length ≤ k) : l.getD k 0 = 0 := by simp [List.getD, h]
theorem rv_snoc (l : List Int) (x : Int) : rv (l ++ [x]) = rv l + 65536 ^ l.length * x := by simp [Ma.vb_append, Ma.vb]
theorem getD_d {l : List Int} (h : D16 l) (j : Nat) : 0 ≤ l.getD j 0 ∧ l.getD j 0 ≤ 65535 := by
 rcases Nat.lt_or_ge j l.length with hj | hj
 ·exact h.get hj
 ·simp [List.getD, hj]
abbrev R16 (l : List Int) (n : Int) : Prop := Ma.Cn 65536 l n
theorem R16.d {l : List Int} {n : Int} (h : R16 l n) : D16 l := D16.of_dg h.dg
theorem trimR (A : Option Addr) (c : Nat) (l : List Int) (hD : D16 l) (hL : l.length ≤ 17592186044416) (w : World) (hv : IV w (.slice A (ints .i64 l).length c) (ints .i64 l)) :
  CallsV P 16 [.slice A (ints .i64 l).length c] w fun r w' => r = .slice A (Ma.tr l).length c ∧ w = w' := by
 refine enterW Tryd.func16 rfl Tryd.ntmps16 rfl ?_
 refine c_seq (c_region (l_assign rfl rfl rfl (l_nil (e_then ?_))))
 refine c_keep [0] (.cons rfl .nil) ?_
 refine c_seq (c_region (l_move rfl rfl rfl ?_))
 refine v_leni rfl rfl Tryd.underlying35 rfl (by first | exact hv | assumption) ?_
 refine l_assign rfl rfl rfl (l_nil (e_then ?_))
 refine c_keep [0, 3] (.cons rfl (.cons rfl .nil)) ?_
 refine c_seq (c_block ?_)
 refine c_loopk (ι := Nat) (fun (k : Nat) => k) (fun (k : Nat) (w' : World) => w = w' ∧ k ≤ l.length ∧ ∀ j, k ≤ j → l.getD j 0 = 0) (fun (k : Nat) => [(3, .int .i64 (k : Int))]) [0] (l.length) ?_ (.cons rfl .nil) ?_ ?_
 ·exact ⟨rfl, Nat.le_refl _, fun j hj => by simp [List.getD, hj]⟩
 ·exact (.cons rfl (by first | rfl | (refine congrArg (Value.int _) ?_; omega)) .nil)
 rintro k _ ⟨rfl, hk, hz⟩
 show RunC P _ _ _ (_ :: _) _
 refine c_seq (c_seq (c_region (l_move rfl rfl rfl ?_)))
 refine l_gtr rfl rfl rfl rfl ?_
 refine l_move rfl rfl rfl ?_
 apply l_and 6 [0, 3] rfl rfl (.cons rfl (.cons rfl (.cons rfl .nil))) rfl rfl (fun _ => rfl) rfl rfl rfl
 ·intro hg2_3
  refine l_move rfl rfl rfl (l_move rfl rfl rfl ?_)
  refine l_sub rfl rfl rfl rfl (w_i64 (by omega)) ?_
  refine v_getr (j := k - 1) rfl rfl rfl rfl Tryd.underlying35 tz3 Tryd.underlying3 rfl rfl (by first | exact hv | assumption) (by assumption) rfl (by omega) (by first | omega | (simp; done) | (simp; omega)) (fun hb2_6 => ?_)
  refine l_eql rfl rfl rfl rfl ?_
  refine l_nil ?_
  exact e_stays rfl (.cons rfl (congrArg Value.bool (decide_eq_true hg2_3).symm) (.cons rfl rfl (.cons rfl rfl .nil)))
 refine l_nil (e_then ?_)
 refine c_keep [0, 3, 15] (.cons rfl (.cons rfl (.cons rfl .nil))) ?_
 first | refine c_cond rfl (fun hc0 => ?_) (fun hc0 => ?_) | refine c_condb rfl (fun hc0 => ?_) (fun hc0 => ?_)
 ·skip
  refine c_skip (e_then ?_)
  refine c_keep [0, 3] (.cons rfl (.cons rfl .nil)) ?_
  refine c_block (c_region (l_move rfl rfl rfl ?_))
  refine l_sub rfl rfl rfl rfl (w_i64 (by omega)) ?_
  refine l_assign rfl rfl rfl (l_nil ?_)
  refine e_blk ?_
  refine e_againk (i := (k)) (k - 1) ?_ ?_ (.cons rfl .nil) ?_
  ·first | omega | (simp; omega)
  ·refine ⟨rfl, by omega, fun j hj => ?_⟩
   rcases Nat.lt_or_ge j k with h | h
   ·obtain rfl : j = k - 1 := by omega
    exact hc0.2
   ·exact hz j h
  ·exact (.cons rfl (by first | rfl | (refine congrArg (Value.int _) ?_; omega)) .nil)
 ·skip
  refine c_exit ?_
  refine e_then_exit ?_
  refine e_then_exit ?_
  refine e_blk_exit ?_
  refine e_then ?_
  refine c_keep [0, 3] (.cons rfl (.cons rfl .nil)) ?_
  refine c_seq (c_region (l_move rfl rfl rfl (l_move rfl rfl rfl ?_)))
  refine v_head (h := k) rfl rfl Tryd.underlying35 tz3 rfl rfl (by first | exact hv | assumption) (by first | rfl | omega) (by first | omega | (simp; done) | (simp; omega)) (fun A4_2 c4_2 h4_2 => ?_)
  injection h4_2 with e1 e2 e3
  subst e1 e3
  refine l_assign rfl rfl rfl (l_nil (e_then ?_))
  refine c_keep [2] (.cons rfl .nil) ?_
  refine c_ret ?_
  refine e_done1 Tryd.results16 rfl ?_
  refine ⟨_, rfl, ?_⟩
  refine ⟨?_, rfl⟩
  rw [Ma.tr_len_unique hk hz (fun h e => hc0 ⟨by omega, e⟩)]
theorem trimR_turn {v : Value} {l : List Int} (hD : D16 l) (hL : l.length ≤ 17592186044416) {w : World} (hv : IV w v (ints .i64 l)) : CallsV P 16 [v] w fun r w' => ∃ v', r = v' ∧ Turn w w' (As.ri 3 .i64 v l) (As.ri 3 .i64 v' (Ma.tr l)) ∧ IV w' v' (ints .i64 (Ma.tr l)) := by
 obtain ⟨A, c, rfl, hc, hs⟩ := hv
 have hv : IV w (.slice A (ints .i64 l).length c) (ints .i64 l) := ⟨A, c, rfl, hc, hs⟩
 refine (trimR A c l hD hL w hv).mono ?_
 rintro r _ ⟨rfl, rfl⟩
 have h := Ma.tr_take l
 have e : ints .i64 (Ma.tr l) = (ints .i64 l).take (Ma.tr l).length := by rw [← List.map_take, ← h.1]
 have hl : (Ma.tr l).length ≤ (ints .i64 l).length := by simpa using h.2.1
 refine ⟨_, rfl, fun w0 B M σ σ' u hw => ?_, ?_⟩
 ·unfold As.ri at u
  rw [e] at u
  exact hw.head u hl
 ·rw [e]; exact hv.head hl
theorem p4 (k : Nat) : (65536 : Int) ^ (4 * k) = 18446744073709551616 ^ k := by rw [Int.pow_mul]; rfl
theorem num_step {s p w A : Int} (h : s + p * w = A) : s + p * (w % 65536) + (p * 65536) * (w / 65536) = A := by
 have e := Int.emod_add_mul_ediv w 65536
 have : p * (w % 65536) + (p * 65536) * (w / 65536) = p * w := by rw [Int.mul_assoc, ← Int.mul_add, e]
 omega
theorem numR (v : Value) (l : List Int) (hU : Rg 0 18446744073709551615 l) (hL : l.length ≤ 68719476736) (w : World) (hv : IV w v (ints .u64 l)) :
  CallsV P 13 [v] w fun r w' => ∃ v ls, r = v ∧ R16 ls (Ma.vb 18446744073709551616 l) ∧ Grow w w' [As.ri 3 .i64 v ls] := by
 refine enterW Tryd.func13 rfl Tryd.ntmps13 rfl ?_
 have hw0 := St.start w
 refine c_seq (c_region (l_assign rfl rfl rfl (l_nil (e_then ?_))))
 refine c_keep [0] (.cons rfl .nil) ?_
 refine c_seq (c_region (l_assign rfl rfl rfl (l_nil (e_then (c_seq ?_)))))
 refine c_seq (c_region (l_assign rfl rfl rfl (l_nil (e_then (c_block ?_)))))
 refine c_loopk (ι := Nat × List Int × Value) (fun (z0 : Nat × List Int × Value) => match z0 with | ⟨k, a, va⟩ => l.length - k) (fun (z0 : Nat × List Int × Value) (w' : World) => match z0 with | ⟨k, a, va⟩ => St w w.heap.size None' ([As.ri 3 .i64 va a]) w' ∧ k ≤ l.length ∧ a.length = 4 * k ∧ D16 a ∧ rv a = Ma.vb 18446744073709551616 (l.take k)) (fun (z0 : Nat × List Int × Value) => match z0 with | ⟨k, a, va⟩ => [(3, va), (4, .int .i64 (k : Int))]) [0] (0, [], .slice none 0 0) ?_ (.cons rfl .nil) ?_ ?_
 ·exact ⟨hw0.nil 3, by omega, rfl, D16.nil, by simp [Ma.vb]⟩
 ·exact (.cons rfl (by first | rfl | (refine congrArg (Value.int _) ?_; omega)) (.cons rfl (by first | rfl | (refine congrArg (Value.int _) ?_; omega)) .nil))
 rintro ⟨k, a, va⟩ w1 ⟨hw1, hk, hal, hDa, hra⟩
 show RunC P _ _ _ (_ :: _) _
 refine c_seq (c_seq (c_region (l_move rfl rfl rfl (l_move rfl rfl rfl ?_))))
 refine v_leni rfl rfl Tryd.underlying62 rfl (by first | exact hw1.io mem0 | exact hw1.iarg hv | assumption) ?_
 refine l_lss rfl rfl rfl rfl ?_
 refine l_nil (e_then ?_)
 refine c_keep [0, 3, 4, 10] (.cons rfl (.cons rfl (.cons rfl (.cons rfl .nil)))) ?_
 first | refine c_cond rfl (fun hc0 => ?_) (fun hc0 => ?_) | refine c_condb rfl (fun hc0 => ?_) (fun hc0 => ?_)
 ·skip
  refine c_skip (e_then ?_)
  refine c_keep [0, 3, 4] (.cons rfl (.cons rfl (.cons rfl .nil))) ?_
  refine c_seq (c_block (c_seq (c_region (l_move rfl rfl rfl (l_move rfl rfl rfl ?_)))))
  refine v_getr rfl rfl rfl rfl Tryd.underlying62 tz22 Tryd.underlying22 rfl rfl (by first | exact hw1.io mem0 | exact hw1.iarg hv | assumption) (by assumption) rfl rfl (by first | omega | (simp; done) | (simp; omega)) (fun hb5_2 => ?_)
  refine l_assign rfl rfl rfl (l_nil (e_then ?_))
  refine c_keep [0, 3, 4, 5] (.cons rfl (.cons rfl (.cons rfl (.cons rfl .nil)))) ?_
  refine c_seq (c_region (l_assign rfl rfl rfl (l_nil (e_then (c_block ?_)))))
  refine c_loopk (ι := Nat × Int × List Int × Value) (fun (z0 : Nat × Int × List Int × Value) => match z0 with | ⟨kk, ww, a', va'⟩ => 4 - kk) (fun (z0 : Nat × Int × List Int × Value) (w' : World) => match z0 with | ⟨kk, ww, a', va'⟩ => St w w.heap.size None' ([As.ri 3 .i64 va' a']) w' ∧ kk ≤ 4 ∧ a'.length = 4 * k + kk ∧ D16 a' ∧ 0 ≤ ww ∧ (kk = 0 → ww ≤ 18446744073709551615) ∧ (kk = 1 → ww ≤ 281474976710655) ∧ (kk = 2 → ww ≤ 4294967295) ∧ (kk = 3 → ww ≤ 65535) ∧ (kk = 4 → ww = 0) ∧ rv a' + 65536 ^ (4 * k + kk) * ww = Ma.vb 18446744073709551616 (l.take k) + 65536 ^ (4 * k) * l.getD k 0) (fun (z0 : Nat × Int × List Int × Value) => match z0 with | ⟨kk, ww, a', va'⟩ => [(3, va'), (5, .int .u64 ww), (6, .int .i64 (kk : Int))]) [0, 4] (0, l.getD k 0, a, va) ?_ (.cons rfl (.cons rfl .nil)) ?_ ?_
  ·exact ⟨hw1, by omega, by omega, hDa, by omega, by omega, by omega, by omega, by omega, by omega, by rw [hra, Nat.add_zero]⟩
  ·exact (.cons rfl (by first | rfl | (refine congrArg (Value.int _) ?_; omega)) (.cons rfl (by first | rfl | (refine congrArg (Value.int _) ?_; omega)) (.cons rfl (by first | rfl | (refine congrArg (Value.int _) ?_; omega)) .nil)))
  rintro ⟨kk, ww, a', va'⟩ w2 ⟨hw2, hkk, hal', hDa', hww, hb0, hb1, hb2, hb3, hb4, hra'⟩
  show RunC P _ _ _ (_ :: _) _
  refine c_seq (c_seq (c_region (l_move rfl rfl rfl ?_)))
  refine l_lss rfl rfl rfl rfl ?_
  refine l_nil (e_then ?_)
  refine c_keep [0, 3, 4, 5, 6, 18] (.cons rfl (.cons rfl (.cons rfl (.cons rfl (.cons rfl (.cons rfl .nil)))))) ?_
  first | refine c_cond rfl (fun hc1 => ?_) (fun hc1 => ?_) | refine c_condb rfl (fun hc1 => ?_) (fun hc1 => ?_)
  ·skip
   refine c_skip (e_then ?_)
   refine c_keep [0, 3, 4, 5, 6] (.cons rfl (.cons rfl (.cons rfl (.cons rfl (.cons rfl .nil))))) ?_
   refine c_seq (c_block (c_seq (c_region (l_move rfl rfl rfl (l_move rfl rfl rfl ?_)))))
   refine l_rem rfl rfl rfl rfl (by omega) (r_pos (by omega)) ?_
   refine l_conv rfl rfl Tryd.underlying22 Tryd.underlying3 rfl (w_i64 (by omega)) ?_
   refine v_lit hw2 rfl rfl Tryd.underlying35 ti3 rfl (.cons rfl (by first | rfl | assumption) .nil) rfl rfl rfl (fun b9_4 w3 hw3 => ?_)
   try clear hw2
   refine v_push hw3 rfl rfl Tryd.underlying35 ti3 rfl rfl rfl rfl (by first | (simp [Value.oneCell']; done) | (intro u hu; rw [List.mem_singleton.1 hu]; assumption)) (by first | (simp; done) | (simp; omega)) (by first | (simp; done) | (simp; omega)) (fun v9_5 w4 hw4 => ?_)
   try clear hw3
   refine l_assign rfl rfl rfl (l_nil (e_then ?_))
   refine c_keep [0, 3, 4, 5, 6] (.cons rfl (.cons rfl (.cons rfl (.cons rfl (.cons rfl .nil))))) ?_
   refine c_region (l_move rfl rfl rfl ?_)
   refine l_quo rfl rfl rfl rfl (by omega) (q_u64 (by omega)) ?_
   refine l_assign rfl rfl rfl (l_nil ?_)
   refine e_blk ?_
   refine e_then ?_
   refine c_keep [0, 3, 4, 5, 6] (.cons rfl (.cons rfl (.cons rfl (.cons rfl (.cons rfl .nil))))) ?_
   refine c_region (l_move rfl rfl rfl ?_)
   refine l_add rfl rfl rfl rfl (w_i64 (by omega)) ?_
   refine l_assign rfl rfl rfl (l_nil ?_)
   refine e_againk (i := (kk, ww, a', va')) (kk + 1, ww / 65536, a' ++ [ww % 65536], v9_5) ?_ ?_ (.cons rfl (.cons rfl .nil)) ?_
   ·first | omega | (simp; omega)
   ·refine ⟨hw4.cast (by rw [ints_snoc]), by omega, by simp; omega, hDa'.snoc (by omega), by omega, by omega, by omega, by omega, by omega, by omega, ?_⟩
    rw [rv_snoc, hal', show 4 * k + (kk + 1) = (4 * k + kk) + 1 from by omega, Int.pow_succ]
    exact num_step hra'
   ·exact (.cons rfl (by first | rfl | (refine congrArg (Value.int _) ?_; omega)) (.cons rfl (by first | rfl | (refine congrArg (Value.int _) ?_; omega)) (.cons rfl (by first | rfl | (refine congrArg (Value.int _) ?_; omega)) .nil)))
  ·skip
   refine c_exit ?_
   refine e_then_exit ?_
   refine e_then_exit ?_
   refine e_blk_exit ?_
   refine e_blk ?_
   refine e_then ?_
   refine c_keep [0, 3, 4] (.cons rfl (.cons rfl (.cons rfl .nil))) ?_
   refine c_region (l_move rfl rfl rfl ?_)
   refine l_add rfl rfl rfl rfl (w_i64 (by omega)) ?_
   refine l_assign rfl rfl rfl (l_nil ?_)
   refine e_againk (i := (k, a, va)) (k + 1, a', va') ?_ ?_ (.cons rfl .nil) ?_
   ·first | omega | (simp; omega)
   ·have hw0' : ww = 0 := by omega
    subst hw0'
    have hk4 : kk = 4 := by omega
    subst hk4
    refine ⟨hw2, by omega, by omega, hDa', ?_⟩
    rw [Int.mul_zero, Int.add_zero] at hra'
    rw [hra', Ma.vb_take_succ, p4]
   ·exact (.cons rfl (by first | rfl | (refine congrArg (Value.int _) ?_; omega)) (.cons rfl (by first | rfl | (refine congrArg (Value.int _) ?_; omega)) .nil))
 ·skip
  refine c_exit ?_
  refine e_then_exit ?_
  refine e_then_exit ?_
  refine e_blk_exit ?_
  refine e_then ?_
  refine c_keep [3] (.cons rfl .nil) ?_
  refine c_seq (c_region (l_move rfl rfl rfl ?_))
  refine l_call rfl rfl Tryd.func16 rfl rfl (.cons rfl .nil) (trimR_turn hDa (by omega) (hw1.io mem0)) ?_
  rintro _ w5 ⟨v', rfl, hT, _⟩
  have hw5 := hT _ _ _ _ _ .head hw1
  try clear hT hw1
  refine l_assign rfl rfl rfl (l_nil (e_then ?_))
  refine c_keep [2] (.cons rfl .nil) ?_
  refine c_ret ?_
  refine e_done1 Tryd.results13 rfl ?_
  refine ⟨_, rfl, ?_⟩
  refine ⟨_, _, rfl, ?_, hw5.grows⟩
  rw [List.take_of_length_le (by omega)] at hra
  exact Ma.Cn.of_tr hDa.dg hra
def word (l : List Int) (i k : Nat) : Int := Ma.vb 65536 ((l.drop (i + k)).take (4 - k))
end Go.Proofs.YtojjlipcjdaejaaDoor.W
