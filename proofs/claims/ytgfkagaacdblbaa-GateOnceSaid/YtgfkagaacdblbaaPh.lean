/- walk of power.Segment -/
import Derived.Test.YtgfkagaacdblbaaPa
set_option linter.unusedVariables false
set_option linter.unusedSimpArgs false
set_option maxRecDepth 10000
namespace Go.Proofs.Ytgfkagaacdblbaa.W
open Go.Vc Go.RowKit
abbrev wrow (n : Int) : List Value := [.int .u64 (n / 18446744073709551616), .int .u64 (n % 18446744073709551616)]
def segR (s : Int) : List (List Value) := (List.range (firstS s).2.1.toNat).map fun i : Nat => wrow (entS ((firstS s).1 + (i : Int))).1
theorem segR_at (s : Int) (i : Nat) (h : i < (firstS s).2.1.toNat) : (segR s)[i]? = some (wrow (entS ((firstS s).1 + i)).1) := by
 simp [segR, h]
theorem segR_len (s : Int) : (segR s).length = (firstS s).2.1.toNat := by simp [segR]
theorem segR_rows (s : Int) : Rows_ 2 (segR s) := fun r hr => by
 obtain ⟨i, _, rfl⟩ := List.mem_map.1 hr
 exact ⟨rfl, by simp [Value.oneCell']⟩
theorem segR_eq {rs : List (List Value)} {s : Int} (hl : rs.length = (firstS s).2.1.toNat) (h : ∀ j : Nat, j < rs.length → rs[j]? = some (wrow (entS ((firstS s).1 + j)).1)) : rs = segR s := by
 apply List.ext_getElem?
 intro j
 by_cases hj : j < rs.length
 ·rw [h j hj, segR_at s j (by omega)]
 ·rw [List.getElem?_eq_none (by omega), List.getElem?_eq_none (by rw [segR_len]; omega)]
theorem entS_neg {q : Int} (n : Nat) (h : -342 ≤ q ∧ q < 0) (hn : (n : Int) = -q) : (entS q).1 = blM (5 ^ n) := by
 unfold entS
 rw [if_neg (by omega), if_pos h.2, show (-q).toNat = n from by omega]
theorem entS_pos {q : Int} (n : Nat) (h : 0 ≤ q ∧ q ≤ 308) (hn : (n : Int) = q) : (entS q).1 = abM (5 ^ n) := by
 unfold entS
 rw [if_neg (by omega), if_neg (by omega), show q.toNat = n from by omega]
theorem wrow_set {rs : List (List Value)} {i : Nat} {x : List Value} (hi : i < rs.length) (j : Nat) : (rs.set i x)[j]? = if i = j then some x else rs[j]? := by
 rw [List.getElem?_set]
 split
 ·rename_i h; subst h; simp [hi]
 ·rfl
theorem segP (s : Int) (hs : -9223372036854775808 ≤ s ∧ s ≤ 9223372036854775807) (w : World) :
  CallsV P 61 [.int .i64 s] w fun r w' => ∃ v, r = .tuple #[v, .int .i64 (firstS s).2.2] ∧ Grow w w' [As.rk 77 2 v (segR s)] := by
 refine enterW Try.func61 rfl Try.ntmps61 rfl ?_
 have hw0 := St.start w
 refine c_seq (c_region (l_assign rfl rfl rfl (l_assign rfl rfl rfl (l_nil (e_then ?_)))))
 refine c_keep [0] (.cons rfl .nil) ?_
 refine c_seq (c_region (l_move rfl rfl rfl ?_))
 refine l_callp rfl rfl Try.func72 rfl rfl (.cons rfl .nil) (firstP s hs _) ?_
 refine l_move rfl rfl rfl (l_extract rfl rfl rfl rfl (l_extract rfl rfl rfl rfl (l_extract rfl rfl rfl rfl (l_assign rfl rfl rfl (l_assign rfl rfl rfl ?_)))))
 refine l_assign rfl rfl rfl (l_nil (e_then ?_))
 refine c_keep [4, 5, 6] (.cons rfl (.cons rfl (.cons rfl .nil))) ?_
 refine c_seq (c_seq (c_region (l_move rfl rfl rfl ?_)))
 refine l_neq rfl rfl rfl rfl ?_
 refine l_nil (e_then ?_)
 refine c_keep [4, 5, 6, 19] (.cons rfl (.cons rfl (.cons rfl (.cons rfl .nil)))) ?_
 first | refine c_cond rfl (fun hc0 => ?_) (fun hc0 => ?_) | refine c_condb rfl (fun hc0 => ?_) (fun hc0 => ?_)
 ·skip
  have hbad : s < 0 ∨ 41 ≤ s := by
   rcases Int.lt_or_le s 0 with h | h
   ·exact .inl h
   ·rcases Int.lt_or_le s 41 with h2 | h2
    ·exact absurd (show (firstS s).2.2 = 0 by unfold firstS; rw [if_neg (by omega)]) hc0
    ·exact .inr h2
  refine c_seq (c_region (l_move rfl rfl rfl (l_assign rfl rfl rfl (l_assign rfl rfl rfl (l_nil ?_)))))
  refine e_then ?_
  refine c_keep [2, 3] (.cons rfl (.cons rfl .nil)) ?_
  refine c_ret ?_
  refine e_then_ret ?_
  refine e_done2 Try.results61 rfl rfl ?_
  refine ⟨_, rfl, ?_⟩
  have e : firstS s = (0, 0, 61) := if_pos hbad
  have es : segR s = [] := by unfold segR; rw [e]; rfl
  rw [es, e]
  exact ⟨_, rfl, (hw0.nilk 77 2).grows⟩
 ·skip
  have hgood : 0 ≤ s ∧ s ≤ 40 := by
   rcases Int.lt_or_le s 0 with h | h
   ·exact absurd (show (firstS s).2.2 = 61 by unfold firstS; rw [if_pos (by omega)]) (by omega)
   ·rcases Int.lt_or_le s 41 with h2 | h2
    ·omega
    ·exact absurd (show (firstS s).2.2 = 61 by unfold firstS; rw [if_pos (by omega)]) (by omega)
  have hfe : firstS s = (-342 + 16 * s, if s = 40 then 11 else 16, 0) := by unfold firstS; rw [if_neg (by omega)]
  obtain ⟨q, hqd⟩ : ∃ q : Int, (firstS s).1 = q := ⟨_, rfl⟩
  obtain ⟨nn, hnd⟩ : ∃ nn : Nat, (firstS s).2.1 = (nn : Int) := ⟨(firstS s).2.1.toNat, by rw [hfe]; dsimp only; split <;> omega⟩
  have hq1 : q = -342 + 16 * s := by rw [← hqd, hfe]
  have hn1 : (nn : Int) = if s = 40 then 11 else 16 := by rw [← hnd, hfe]
  have hnb : 11 ≤ nn ∧ nn ≤ 16 ∧ q + nn ≤ 309 := by split at hn1 <;> omega
  rw [hqd, hnd]
  refine c_skip (e_then ?_)
  refine c_keep [4, 5] (.cons rfl (.cons rfl .nil)) ?_
  refine c_seq (c_region (l_move rfl rfl rfl ?_))
  refine k_make (m := nn) (c := nn) hw0 rfl rfl Try.underlying34 ti77 rfl (by decide) (by simp [Value.oneCell']) rfl rfl (by omega) (by omega) (by omega) (by omega) (by simp only [maxLen]; omega) (by omega) (fun v4_1 w1 hw1 => ?_)
  try clear hw0
  refine l_assign rfl rfl rfl (l_nil (e_then ?_))
  refine c_keep [4, 5, 7] (.cons rfl (.cons rfl (.cons rfl .nil))) ?_
  refine c_seq (c_region (l_move rfl rfl rfl ?_))
  refine l_neg rfl rfl rfl (w_i64 (by omega)) ?_
  refine l_max rfl rfl rfl rfl ?_
  refine l_move rfl rfl rfl ?_
  refine l_min rfl rfl rfl rfl ?_
  refine l_assign rfl rfl rfl (l_nil (e_then ?_))
  refine c_keep [4, 5, 7, 8] (.cons rfl (.cons rfl (.cons rfl (.cons rfl .nil)))) ?_
  refine c_seq (c_region (l_move rfl rfl rfl (l_move rfl rfl rfl ?_)))
  refine l_add rfl rfl rfl rfl (w_i64 (by omega)) ?_
  refine l_sub rfl rfl rfl rfl (w_i64 (by omega)) ?_
  refine l_neg rfl rfl rfl (w_i64 (by omega)) ?_
  refine l_max rfl rfl rfl rfl ?_
  obtain ⟨e0, he0⟩ : ∃ e0 : Nat, max (0 - (q + min (max (0 - q) 0) (nn : Int) - 1)) 0 = (e0 : Int) := ⟨(max (0 - (q + min (max (0 - q) 0) (nn : Int) - 1)) 0).toNat, by omega⟩
  refine l_turn (s := 33) (v' := .int .i64 (e0 : Int)) rfl (by rw [he0]) ?_
  refine l_call rfl rfl Try.func59 rfl rfl (.cons rfl .nil) (powersP e0 (by omega) w1) ?_
  rintro _ w2 ⟨b, vl, ls, rfl, hcn, hG⟩
  have hw2 := hG _ _ _ _ hw1
  try clear hG hw1
  simp only [List.cons_append, List.nil_append] at hw2
  refine l_assign rfl rfl rfl (l_nil (e_then ?_))
  refine c_keep [4, 5, 7, 8, 9] (.cons rfl (.cons rfl (.cons rfl (.cons rfl (.cons rfl .nil))))) ?_
  refine c_seq (c_seq (c_region ?_))
  obtain ⟨dn, hdn⟩ : ∃ dn : Nat, min (max (0 - q) 0) (nn : Int) = (dn : Int) := ⟨(min (max (0 - q) 0) (nn : Int)).toNat, by omega⟩
  rw [hdn] at he0 ⊢
  refine l_move rfl rfl rfl ?_
  refine l_sub rfl rfl rfl rfl (w_i64 (by omega)) ?_
  refine l_assign rfl rfl rfl (l_nil (e_then ?_))
  refine c_keep [4, 5, 7, 8, 9, 10] (.cons rfl (.cons rfl (.cons rfl (.cons rfl (.cons rfl (.cons rfl .nil)))))) ?_
  refine c_block ?_
  refine c_loopk (ι := Nat × List (List Value) × Value × List Int × Nat) (fun (z0 : Nat × List (List Value) × Value × List Int × Nat) => match z0 with | ⟨k, rs, vl, ls, e⟩ => k) (fun (z0 : Nat × List (List Value) × Value × List Int × Nat) (w' : World) => match z0 with | ⟨k, rs, vl, ls, e⟩ => St w w.heap.size None' ([As.blk b 95 [vl], As.ri 75 .u64 vl ls, As.rk 77 2 v4_1 rs]) w' ∧ k ≤ dn ∧ rs.length = nn ∧ Rows_ 2 rs ∧ Ma.Cn 18446744073709551616 ls (5 ^ e) ∧ e ≤ 343 ∧ (0 < k → (e : Int) = -(q + k - 1)) ∧ ∀ j : Nat, k ≤ j → j < dn → rs[j]? = some (wrow (entS (q + j)).1)) (fun (z0 : Nat × List (List Value) × Value × List Int × Nat) => match z0 with | ⟨k, rs, vl, ls, e⟩ => [(10, .int .i64 ((k : Int) - 1))]) [4, 5, 7, 8, 9] (dn, List.replicate nn [.int .u64 0, .int .u64 0], vl, ls, e0) ?_ (.cons rfl (.cons rfl (.cons rfl (.cons rfl (.cons rfl .nil))))) ?_ ?_
  ·exact ⟨hw2, Nat.le_refl _, by simp, Rows_.rep rfl (by simp [Value.oneCell']) _, hcn, by omega, by omega, fun j h1 h2 => by omega⟩
  ·exact (.cons rfl (by first | rfl | (refine congrArg (Value.int _) ?_; omega)) .nil)
  rintro ⟨k, rs, vl, ls, e⟩ w3 ⟨hw3, hk, hrl, hRs, hcn, he, hek, hrow⟩
  show RunC P _ _ _ (_ :: _) _
  refine c_seq (c_seq (c_region (l_move rfl rfl rfl ?_)))
  refine l_geq rfl rfl rfl rfl ?_
  refine l_nil (e_then ?_)
  refine c_keep [4, 5, 7, 8, 9, 10, 38] (.cons rfl (.cons rfl (.cons rfl (.cons rfl (.cons rfl (.cons rfl (.cons rfl .nil))))))) ?_
  first | refine c_cond rfl (fun hc1 => ?_) (fun hc1 => ?_) | refine c_condb rfl (fun hc1 => ?_) (fun hc1 => ?_)
  ·skip
   refine c_skip (e_then ?_)
   refine c_keep [4, 5, 7, 8, 9, 10] (.cons rfl (.cons rfl (.cons rfl (.cons rfl (.cons rfl (.cons rfl .nil)))))) ?_
   refine c_seq (c_block (c_region (l_move rfl rfl rfl (l_move rfl rfl rfl (l_move rfl rfl rfl ?_)))))
   refine l_callv rfl rfl rfl Try.func69 rfl rfl .nil (nextP b vl ls e (by omega) hcn w3 (St.rows (τ := [As.blk b 95 [vl], As.ri 75 .u64 vl ls]) (σ := _) hw3)) ?_
   rintro _ w4 ⟨rfl, vm, lm, hm, hX⟩
   have hw4 := hX _ _ _ _ hw3
   simp only [List.cons_append, List.nil_append] at hw4
   try clear hX hw3
   refine l_call rfl rfl Try.func58 rfl rfl (.cons rfl .nil) (belowP vl ls (5 ^ e) hcn (five_pos e) (by have := five_blen e (by omega); omega) ((bl_fit ⟨e, by omega⟩).resolve_left (by show ¬ e = 0; omega)) w4 (hw4.io mem2)) ?_
   rintro _ w5 ⟨rfl, hG⟩
   have hw5 := hG _ _ _ _ hw4
   try clear hG hw4
   simp only [List.cons_append, List.nil_append] at hw5
   refine l_move rfl rfl rfl (l_extract rfl rfl rfl rfl (l_extract rfl rfl rfl rfl ?_))
   refine k_addr (j := k - 1) rfl rfl Try.underlying34 tz77 (by decide) rfl rfl (by first | exact hw5.ibl mem0 | exact hw5.io mem1 | exact hw5.io mem2 | exact hw5.ik (by assumption) mem3 | assumption) (by first | rfl | omega) (by first | omega | (simp; done) | (simp; omega)) (fun ad10_8 ac10_8 hA10_8 => ?_)
   have hne : Rows_ 2 rs := hRs
   refine k_store (j := k - 1) hw5 (.tail (.tail (.tail .head))) (by assumption) (by decide) hA10_8 rfl tz77 rfl rfl rfl (by first | omega | (simp; done) | (simp; omega)) (by first | (simp [Value.oneCell']; done) | (intro u hu; simp only [List.mem_cons, List.not_mem_nil, or_false] at hu; rcases hu with rfl | rfl <;> first | rfl | assumption)) (fun w6 hw6 => ?_)
   try clear hw5
   refine l_nil ?_
   refine e_blk ?_
   refine e_then ?_
   refine c_keep [4, 5, 7, 8, 9, 10] (.cons rfl (.cons rfl (.cons rfl (.cons rfl (.cons rfl (.cons rfl .nil)))))) ?_
   refine c_region (l_move rfl rfl rfl ?_)
   refine l_sub rfl rfl rfl rfl (w_i64 (by omega)) ?_
   refine l_assign rfl rfl rfl (l_nil ?_)
   have hw7 := St.del (.tail (.tail .head)) hw6
   try clear hw6
   refine e_againk (i := (k, rs, vl, ls, e)) (k - 1, rs.set (k - 1) (wrow (blM (5 ^ e))), vm, lm, e + 1) ?_ ?_ (.cons rfl (.cons rfl (.cons rfl (.cons rfl (.cons rfl .nil))))) ?_
   ·first | omega | (simp; omega)
   ·refine ⟨hw7, by omega, by simpa using hrl, hRs.set rfl (by simp [Value.oneCell']) _, hm, by omega, by omega, fun j h1 h2 => ?_⟩
    rw [wrow_set (by omega)]
    split
    ·rename_i h3
     rw [entS_neg e (by omega) (by omega)]
    ·exact hrow j (by omega) h2
   ·exact (.cons rfl (by first | rfl | (refine congrArg (Value.int _) ?_; omega)) .nil)
  ·skip
   refine c_exit ?_
   refine e_then_exit ?_
   refine e_then_exit ?_
   refine e_blk_exit ?_
   refine e_then ?_
   refine c_keep [4, 5, 7, 8] (.cons rfl (.cons rfl (.cons rfl (.cons rfl .nil)))) ?_
   refine c_seq (c_region (l_move rfl rfl rfl ?_))
   have hw8 := St.del .head hw3
   try clear hw3
   have hw9 := St.del .head hw8
   try clear hw8
   refine l_max rfl rfl rfl rfl ?_
   obtain ⟨e1, he1⟩ : ∃ e1 : Nat, max q 0 = (e1 : Int) := ⟨(max q 0).toNat, by omega⟩
   refine l_turn (s := 51) (v' := .int .i64 (e1 : Int)) rfl (by rw [he1]) ?_
   refine l_call rfl rfl Try.func59 rfl rfl (.cons rfl .nil) (powersP e1 (by omega) w3) ?_
   rintro _ w10 ⟨b, vl, ls, rfl, hcn, hG⟩
   have hw10 := hG _ _ _ _ hw9
   try clear hG hw9
   simp only [List.cons_append, List.nil_append] at hw10
   refine l_assign rfl rfl rfl (l_nil (e_then ?_))
   refine c_keep [5, 7, 8, 9] (.cons rfl (.cons rfl (.cons rfl (.cons rfl .nil)))) ?_
   refine c_seq (c_seq (c_region (l_move rfl rfl rfl (l_assign rfl rfl rfl (l_nil ?_)))))
   refine e_then ?_
   refine c_keep [5, 7, 9, 11] (.cons rfl (.cons rfl (.cons rfl (.cons rfl .nil)))) ?_
   refine c_block ?_
   refine c_loopk (ι := Nat × List (List Value) × Value × List Int × Nat) (fun (z0 : Nat × List (List Value) × Value × List Int × Nat) => match z0 with | ⟨k, rs, vl, ls, e⟩ => nn - k) (fun (z0 : Nat × List (List Value) × Value × List Int × Nat) (w' : World) => match z0 with | ⟨k, rs, vl, ls, e⟩ => St w w.heap.size None' ([As.blk b 95 [vl], As.ri 75 .u64 vl ls, As.rk 77 2 v4_1 rs]) w' ∧ dn ≤ k ∧ k ≤ nn ∧ rs.length = nn ∧ Rows_ 2 rs ∧ Ma.Cn 18446744073709551616 ls (5 ^ e) ∧ e ≤ 330 ∧ (k < nn → (e : Int) = q + k) ∧ ∀ j : Nat, j < k → rs[j]? = some (wrow (entS (q + j)).1)) (fun (z0 : Nat × List (List Value) × Value × List Int × Nat) => match z0 with | ⟨k, rs, vl, ls, e⟩ => [(11, .int .i64 (k : Int))]) [5, 7, 9] (dn, rs, vl, ls, e1) ?_ (.cons rfl (.cons rfl (.cons rfl .nil))) ?_ ?_
   ·exact ⟨hw10, Nat.le_refl _, by omega, hrl, hRs, hcn, by omega, by omega, fun j h1 => hrow j (by omega) h1⟩
   ·exact (.cons rfl (by first | rfl | (refine congrArg (Value.int _) ?_; omega)) .nil)
   rintro ⟨k, rs, vl, ls, e⟩ w11 ⟨hw11, hdk, hk, hrl, hRs, hcn, he, hek, hrow⟩
   show RunC P _ _ _ (_ :: _) _
   refine c_seq (c_seq (c_region (l_move rfl rfl rfl (l_move rfl rfl rfl ?_))))
   refine l_lss rfl rfl rfl rfl ?_
   refine l_nil (e_then ?_)
   refine c_keep [5, 7, 9, 11, 56] (.cons rfl (.cons rfl (.cons rfl (.cons rfl (.cons rfl .nil))))) ?_
   first | refine c_cond rfl (fun hc2 => ?_) (fun hc2 => ?_) | refine c_condb rfl (fun hc2 => ?_) (fun hc2 => ?_)
   ·skip
    refine c_skip (e_then ?_)
    refine c_keep [5, 7, 9, 11] (.cons rfl (.cons rfl (.cons rfl (.cons rfl .nil)))) ?_
    refine c_seq (c_block (c_region (l_move rfl rfl rfl (l_move rfl rfl rfl (l_move rfl rfl rfl ?_)))))
    refine l_callv rfl rfl rfl Try.func69 rfl rfl .nil (nextP b vl ls e (by omega) hcn w11 (St.rows (τ := [As.blk b 95 [vl], As.ri 75 .u64 vl ls]) (σ := _) hw11)) ?_
    rintro _ w12 ⟨rfl, vm, lm, hm, hX⟩
    have hw12 := hX _ _ _ _ hw11
    simp only [List.cons_append, List.nil_append] at hw12
    try clear hX hw11
    refine l_call rfl rfl Try.func60 rfl rfl (.cons rfl .nil) (aboveP vl ls (5 ^ e) hcn (five_pos e) (by have := five_blen e (by omega); omega) w12 (hw12.io mem2)) ?_
    rintro _ w13 ⟨rfl, hG⟩
    have hw13 := hG _ _ _ _ hw12
    try clear hG hw12
    simp only [List.cons_append, List.nil_append] at hw13
    refine l_move rfl rfl rfl (l_extract rfl rfl rfl rfl (l_extract rfl rfl rfl rfl ?_))
    refine k_addr (j := k) rfl rfl Try.underlying34 tz77 (by decide) rfl rfl (by first | exact hw13.ibl mem0 | exact hw13.io mem1 | exact hw13.io mem2 | exact hw13.ik (by assumption) mem3 | assumption) (by first | rfl | omega) (by first | omega | (simp; done) | (simp; omega)) (fun ad15_8 ac15_8 hA15_8 => ?_)
    have hne : Rows_ 2 rs := hRs
    refine k_store (j := k) hw13 (.tail (.tail (.tail .head))) (by assumption) (by decide) hA15_8 rfl tz77 rfl rfl rfl (by first | omega | (simp; done) | (simp; omega)) (by first | (simp [Value.oneCell']; done) | (intro u hu; simp only [List.mem_cons, List.not_mem_nil, or_false] at hu; rcases hu with rfl | rfl <;> first | rfl | assumption)) (fun w14 hw14 => ?_)
    try clear hw13
    refine l_nil ?_
    refine e_blk ?_
    refine e_then ?_
    refine c_keep [5, 7, 9, 11] (.cons rfl (.cons rfl (.cons rfl (.cons rfl .nil)))) ?_
    refine c_region (l_move rfl rfl rfl ?_)
    refine l_add rfl rfl rfl rfl (w_i64 (by omega)) ?_
    refine l_assign rfl rfl rfl (l_nil ?_)
    have hw15 := St.del (.tail (.tail .head)) hw14
    try clear hw14
    refine e_againk (i := (k, rs, vl, ls, e)) (k + 1, rs.set k (wrow (abM (5 ^ e))), vm, lm, e + 1) ?_ ?_ (.cons rfl (.cons rfl (.cons rfl .nil))) ?_
    ·first | omega | (simp; omega)
    ·refine ⟨hw15, by omega, by omega, by simpa using hrl, hRs.set rfl (by simp [Value.oneCell']) _, hm, by omega, by omega, fun j h1 => ?_⟩
     rw [wrow_set (by omega)]
     split
     ·rename_i h3
      rw [entS_pos e (by omega) (by omega)]
     ·exact hrow j (by omega)
    ·exact (.cons rfl (by first | rfl | (refine congrArg (Value.int _) ?_; omega)) .nil)
   ·skip
    refine c_exit ?_
    refine e_then_exit ?_
    refine e_then_exit ?_
    refine e_blk_exit ?_
    refine e_then ?_
    refine c_keep [7] (.cons rfl .nil) ?_
    refine c_seq (c_region (l_move rfl rfl rfl (l_assign rfl rfl rfl (l_assign rfl rfl rfl (l_nil ?_)))))
    refine e_then ?_
    refine c_keep [2, 3] (.cons rfl (.cons rfl .nil)) ?_
    refine c_ret ?_
    refine e_done2 Try.results61 rfl rfl ?_
    refine ⟨_, rfl, ?_⟩
    have hw16 := St.front2 hw11
    try clear hw11
    have hw17 := St.del (.tail (.tail .head)) hw16
    try clear hw16
    have hw18 := St.del (.tail .head) hw17
    try clear hw17
    obtain rfl : k = nn := by omega
    have es : rs = segR s := segR_eq (by rw [hnd]; omega) (fun j hj => by rw [hqd]; exact hrow j (by omega))
    rw [← es, show (firstS s).2.2 = 0 from by rw [hfe]]
    exact ⟨_, rfl, hw18.grows⟩
end Go.Proofs.Ytgfkagaacdblbaa.W
