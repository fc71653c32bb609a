/- walks of mintagelaw02.asks, NatSums -/
import Derived.Test.YtnddfmjmeghkjaaLo
import Derived.Test.YtnddfmjmeghkjaaLd
import Derived.Test.YtnddfmjmeghkjaaFm
set_option linter.unusedVariables false
set_option linter.unusedSimpArgs false
set_option maxRecDepth 10000
namespace Go.Proofs.Ytnddfmjmeghkjaa.W
open Go.Vc Go.RowKit

theorem lenV (v : Value) (l : List Int) (hU : U l) (hL : l.length ≤ 17592186044416) (w : World) (hv : IV w v (ints .u64 l)) : CallsV P 37 [v] w fun r w' => r = .int .i64 (Ma.blen (nv l)) ∧ w = w' := by
  obtain ⟨A, c, rfl, hc, hs⟩ := hv
  exact lenN A c l hU hL w ⟨A, c, rfl, hc, hs⟩
theorem bl_guard {p : Prop} [Decidable p] {x : Int} (h : ¬ p → Ma.blen x ≤ 8192) : Ma.blen (if p then 0 else x) ≤ (8960 : Nat) := by
  split
  · rw [Ma.blen_zero]; omega
  · rename_i h1; have := h h1; omega
theorem bl_sub {a b : Int} (hb : 0 ≤ b) (h : Ma.blen a ≤ (8960 : Nat)) : Ma.blen (if b ≤ a then a - b else 0) ≤ (8960 : Nat) := by
  split
  · have := Ma.blen_mono (a := a - b) (b := a) (by omega) (by omega); omega
  · rw [Ma.blen_zero]; omega
theorem bl_shl {x n : Int} (hx : 0 ≤ x) : Ma.blen (shlS x n).2 ≤ (8960 : Nat) := by
  unfold shlS
  split
  · simp [Ma.blen_zero]
  · split
    · simp [Ma.blen_zero]
    · split
      · simp [Ma.blen_zero]
      · split
        · simp [Ma.blen_zero]
        · rename_i h1 h2 h3 h4
          have := blen_shl (x := x) (by omega) n.toNat
          show Ma.blen (x * 2 ^ n.toNat) ≤ _
          omega
theorem bl_shr {x n : Int} (hx : 0 ≤ x) : Ma.blen (shrS x n).2.1 ≤ (8960 : Nat) := by
  unfold shrS
  split
  · simp [Ma.blen_zero]
  · split
    · simp [Ma.blen_zero]
    · rename_i h1 h2
      have hp := Ma.pow_pos (show (0 : Int) < 2 by omega) n.toNat
      have h0 := Int.ediv_nonneg hx (Int.le_of_lt hp)
      have h3 : x / 2 ^ n.toNat ≤ x := Int.ediv_le_self _ hx
      have := Ma.blen_mono h0 h3
      show Ma.blen (x / 2 ^ n.toNat) ≤ _
      omega
theorem and_255 {n : Int} (h : -9223372036854775808 ≤ n ∧ n ≤ 9223372036854775807) : bitw .and .i64 n 255 = n % 256 := by
  have e : (BitVec.ofInt IntKind.i64.bits n &&& BitVec.ofInt IntKind.i64.bits 255).toNat = (n % 18446744073709551616).toNat % 256 := by
    show (BitVec.ofInt 64 n &&& BitVec.ofInt 64 255).toNat = _
    rw [BitVec.toNat_and, toNat_ofInt64 (m := 255) (by omega), BitVec.toNat_ofInt]
    exact Nat.and_two_pow_sub_one_eq_mod (n % 18446744073709551616).toNat 8
  show IntKind.i64.wrap _ = _
  rw [e, w_i64 (by omega)]
  omega

theorem asksL (kb : Nat) (vw0 vm0 : Value) (an0 cp0 : List (Value × List Int)) (a b : Value) (la lb : List Int) (n : Int) (hn : -9223372036854775808 ≤ n ∧ n ≤ 9223372036854775807) (hUa : U la) (hUb : U lb) (hLa : la.length ≤ 140) (hLb : lb.length ≤ 140) (hB0 : Bk an0 cp0) (hbl0 : an0.length ≤ 300) (w : World) (hS : Sep w.heap.size (fps (book kb vw0 vm0 an0 cp0)) w (book kb vw0 vm0 an0 cp0)) (ha : ∀ w1 : World, (∀ k, k < w.heap.size → ¬ fps (book kb vw0 vm0 an0 cp0) k → w1.heap[k]? = w.heap[k]?) → IV w1 a (ints .u64 la)) (hb : ∀ w1 : World, (∀ k, k < w.heap.size → ¬ fps (book kb vw0 vm0 an0 cp0) k → w1.heap[k]? = w.heap[k]?) → IV w1 b (ints .u64 lb)) :
    CallsV P 26 [.pointer (some ⟨kb, 0, none⟩), a, b, .int .i64 n] w fun r w' => r = .bool true ∧ ∃ vw' vm' an' cp', Bk an' cp' ∧ an'.length = an0.length + 5 ∧ Trans w w' (book kb vw0 vm0 an0 cp0) (book kb vw' vm' an' cp') := by
  refine enterW Try.func26 rfl Try.ntmps26 rfl ?_
  have hw0 := St.startS hS
  have hw0 : St w w.heap.size (fps (book kb vw0 vm0 an0 cp0)) [As.blk kb 51 [.slice none 0 0, .slice none 0 0, vw0, vm0, .slice none 0 0, .slice none 0 0], As.ro 25 vw0 (an0.map (·.1)), As.ro 25 vm0 (cp0.map (·.1)), As.bag 22 (an0.map fun p => (p.1, ints .u64 p.2)), As.bag 22 (cp0.map fun p => (p.1, ints .u64 p.2))] w := hw0
  have hA0 := hUa.nv_nonneg
  have hB00 := hUb.nv_nonneg
  have bA : Ma.blen (nv la) ≤ (8960 : Nat) := by have := nv_blen hUa; omega
  have bB : Ma.blen (nv lb) ≤ (8960 : Nat) := by have := nv_blen hUb; omega
  refine c_seq ?_
  refine c_region ?_
  refine l_assign rfl rfl rfl ?_
  refine l_nil ?_
  refine e_then ?_
  refine c_keep [0, 1, 2, 3] (.cons rfl (.cons rfl (.cons rfl (.cons rfl .nil)))) ?_
  refine c_seq ?_
  refine c_region ?_
  refine l_move rfl rfl rfl ?_
  refine l_move rfl rfl rfl ?_
  refine l_call rfl rfl Try.func29 rfl rfl (.cons rfl (.cons rfl .nil)) (addN _ _ la lb hUa hUb (by omega) (by omega) w (hw0.ikM ha) (hw0.ikM hb)) ?_
  rintro _ w1 ⟨vs, ls, rfl, hs, hG⟩
  have hw1 := hG _ _ _ _ hw0
  try clear hG hw0
  simp only [List.cons_append, List.nil_append] at hw1
  refine l_move rfl rfl rfl ?_
  refine l_extract rfl rfl rfl rfl ?_
  refine l_extract rfl rfl rfl rfl ?_
  refine l_assign rfl rfl rfl ?_
  refine l_assign rfl rfl rfl ?_
  refine l_nil ?_
  refine e_then ?_
  refine c_keep [0, 1, 2, 3, 9, 10] (.cons rfl (.cons rfl (.cons rfl (.cons rfl (.cons rfl (.cons rfl .nil)))))) ?_
  refine c_seq ?_
  refine c_region ?_
  refine l_move rfl rfl rfl ?_
  refine l_move rfl rfl rfl ?_
  refine l_call rfl rfl Try.func51 rfl rfl (.cons rfl (.cons rfl .nil)) (addR2 _ _ la lb hUa hUb (by omega) (by omega) w1 (hw1.ikM ha) (hw1.ikM hb)) ?_
  rintro _ w2 ⟨vt, lt, rfl, ht, hG⟩
  have hw2 := hG _ _ _ _ hw1
  try clear hG hw1
  simp only [List.cons_append, List.nil_append] at hw2
  refine l_move rfl rfl rfl ?_
  refine l_extract rfl rfl rfl rfl ?_
  refine l_extract rfl rfl rfl rfl ?_
  refine l_assign rfl rfl rfl ?_
  refine l_assign rfl rfl rfl ?_
  refine l_nil ?_
  refine e_then ?_
  refine c_keep [0, 1, 2, 3, 9, 10, 11, 12] (.cons rfl (.cons rfl (.cons rfl (.cons rfl (.cons rfl (.cons rfl (.cons rfl (.cons rfl .nil)))))))) ?_
  refine c_seq ?_
  refine c_region ?_
  refine l_move rfl rfl rfl ?_
  refine l_move rfl rfl rfl ?_
  refine l_call rfl rfl Try.func30 rfl rfl (.cons rfl (.cons rfl .nil)) (mulN _ _ la lb hUa hUb (by omega) (by omega) w2 (hw2.ikM ha) (hw2.ikM hb)) ?_
  rintro _ w3 ⟨vp, lp, rfl, hp, hG⟩
  have hw3 := hG _ _ _ _ hw2
  try clear hG hw2
  simp only [List.cons_append, List.nil_append] at hw3
  refine l_move rfl rfl rfl ?_
  refine l_extract rfl rfl rfl rfl ?_
  refine l_extract rfl rfl rfl rfl ?_
  refine l_assign rfl rfl rfl ?_
  refine l_assign rfl rfl rfl ?_
  refine l_nil ?_
  refine e_then ?_
  refine c_keep [0, 1, 2, 3, 9, 10, 11, 12, 13, 14] (.cons rfl (.cons rfl (.cons rfl (.cons rfl (.cons rfl (.cons rfl (.cons rfl (.cons rfl (.cons rfl (.cons rfl .nil)))))))))) ?_
  refine c_seq ?_
  refine c_region ?_
  refine l_move rfl rfl rfl ?_
  refine l_move rfl rfl rfl ?_
  refine l_call rfl rfl Try.func52 rfl rfl (.cons rfl (.cons rfl .nil)) (mulR2 _ _ la lb hUa hUb (by omega) (by omega) w3 (hw3.ikM ha) (hw3.ikM hb)) ?_
  rintro _ w4 ⟨vq, lq, rfl, hq, hG⟩
  have hw4 := hG _ _ _ _ hw3
  try clear hG hw3
  simp only [List.cons_append, List.nil_append] at hw4
  refine l_move rfl rfl rfl ?_
  refine l_extract rfl rfl rfl rfl ?_
  refine l_extract rfl rfl rfl rfl ?_
  refine l_assign rfl rfl rfl ?_
  refine l_assign rfl rfl rfl ?_
  refine l_nil ?_
  refine e_then ?_
  refine c_keep [0, 1, 2, 3, 9, 10, 11, 12, 13, 14, 15, 16] (.cons rfl (.cons rfl (.cons rfl (.cons rfl (.cons rfl (.cons rfl (.cons rfl (.cons rfl (.cons rfl (.cons rfl (.cons rfl (.cons rfl .nil)))))))))))) ?_
  refine c_seq ?_
  refine c_seq ?_
  refine c_region ?_
  have lls := cn_len hs (k := 8960) (bl_guard (fun h => by omega))
  have llt := cn_len ht (k := 8960) (bl_guard (fun h => by omega))
  have llp := cn_len hp (k := 8960) (bl_guard (fun h => by omega))
  have llq := cn_len hq (k := 8960) (bl_guard (fun h => by omega))
  refine l_move rfl rfl rfl ?_
  refine l_callp rfl rfl Try.func12 rfl rfl (.cons rfl .nil) (numL _ _) ?_
  refine l_move rfl rfl rfl ?_
  refine l_neq rfl rfl rfl rfl ?_
  refine l_turn (s := 56) (v' := .bool false) rfl (by simp) ?_
  refine l_move rfl rfl rfl ?_
  refine l_move rfl rfl rfl ?_
  refine l_callp rfl rfl Try.func12 rfl rfl (.cons rfl .nil) (numL _ _) ?_
  refine l_move rfl rfl rfl ?_
  refine l_neq rfl rfl rfl rfl ?_
  refine l_turn (s := 61) (v' := .bool false) rfl (by simp) ?_
  refine l_pick_f rfl rfl rfl rfl ?_
  refine l_move rfl rfl rfl ?_
  refine l_move rfl rfl rfl ?_
  refine l_move rfl rfl rfl ?_
  refine l_call rfl rfl Try.func13 rfl rfl (.cons rfl (.cons rfl .nil)) (wordsK _ _ ls lt (cnU hs) (cnU ht) (by omega) (by omega) w4 (hw4.io mem3) (hw4.io mem2)) ?_
  rintro _ w5 ⟨rfl, hG⟩
  have hw5 := hG _ _ _ _ hw4
  try clear hG hw4
  simp only [List.cons_append, List.nil_append] at hw5
  refine l_turn (s := 66) (v' := .bool true) rfl (by rw [decide_eq_true (hs.eq (by omega) ht)]) ?_
  first | refine l_notd rfl rfl rfl ?_ | refine l_not rfl rfl rfl ?_
  refine l_turn (s := 67) (v' := .bool false) rfl (by rfl) ?_
  refine l_pick_f rfl rfl rfl rfl ?_
  refine l_move rfl rfl rfl ?_
  refine l_move rfl rfl rfl ?_
  refine l_move rfl rfl rfl ?_
  refine l_call rfl rfl Try.func13 rfl rfl (.cons rfl (.cons rfl .nil)) (wordsK _ _ lp lq (cnU hp) (cnU hq) (by omega) (by omega) w5 (hw5.io mem1) (hw5.io mem0)) ?_
  rintro _ w6 ⟨rfl, hG⟩
  have hw6 := hG _ _ _ _ hw5
  try clear hG hw5
  simp only [List.cons_append, List.nil_append] at hw6
  refine l_turn (s := 72) (v' := .bool true) rfl (by rw [decide_eq_true (hp.eq (by omega) hq)]) ?_
  first | refine l_notd rfl rfl rfl ?_ | refine l_not rfl rfl rfl ?_
  refine l_turn (s := 73) (v' := .bool false) rfl (by rfl) ?_
  refine l_pick_f rfl rfl rfl rfl ?_
  refine l_nil ?_
  refine e_then ?_
  refine c_keep [0, 1, 2, 3, 9, 13, 74] (.cons rfl (.cons rfl (.cons rfl (.cons rfl (.cons rfl (.cons rfl (.cons rfl .nil))))))) ?_
  refine c_cond_f rfl rfl ?_
  refine c_skip ?_
  refine e_then ?_
  refine c_keep [0, 1, 2, 3, 9, 13] (.cons rfl (.cons rfl (.cons rfl (.cons rfl (.cons rfl (.cons rfl .nil)))))) ?_
  refine c_seq ?_
  refine c_region ?_
  have hw7 := St.del (.tail (.tail .head)) hw6
  try clear hw6
  have hw8 := St.del .head hw7
  try clear hw7
  refine l_move rfl rfl rfl ?_
  refine l_move rfl rfl rfl ?_
  refine l_call rfl rfl Try.func38 rfl rfl (.cons rfl (.cons rfl .nil)) (subN _ _ la lb hUa hUb (by omega) (by omega) w6 (hw8.ikM ha) (hw8.ikM hb)) ?_
  rintro _ w9 ⟨vd, ld, rfl, hd, hG⟩
  have hw9 := hG _ _ _ _ hw8
  try clear hG hw8
  simp only [List.cons_append, List.nil_append] at hw9
  refine l_move rfl rfl rfl ?_
  refine l_extract rfl rfl rfl rfl ?_
  refine l_extract rfl rfl rfl rfl ?_
  refine l_assign rfl rfl rfl ?_
  refine l_assign rfl rfl rfl ?_
  refine l_nil ?_
  refine e_then ?_
  refine c_keep [0, 1, 2, 3, 9, 13, 17, 18] (.cons rfl (.cons rfl (.cons rfl (.cons rfl (.cons rfl (.cons rfl (.cons rfl (.cons rfl .nil)))))))) ?_
  refine c_seq ?_
  refine c_region ?_
  refine l_move rfl rfl rfl ?_
  refine l_move rfl rfl rfl ?_
  refine l_call rfl rfl Try.func53 rfl rfl (.cons rfl (.cons rfl .nil)) (subR2 _ _ la lb hUa hUb (by omega) (by omega) w9 (hw9.ikM ha) (hw9.ikM hb)) ?_
  rintro _ w10 ⟨vc, lc, rfl, hc, hG⟩
  have hw10 := hG _ _ _ _ hw9
  try clear hG hw9
  simp only [List.cons_append, List.nil_append] at hw10
  refine l_move rfl rfl rfl ?_
  refine l_extract rfl rfl rfl rfl ?_
  refine l_extract rfl rfl rfl rfl ?_
  refine l_assign rfl rfl rfl ?_
  refine l_assign rfl rfl rfl ?_
  refine l_nil ?_
  refine e_then ?_
  refine c_keep [0, 1, 2, 3, 9, 13, 17, 18, 19, 20] (.cons rfl (.cons rfl (.cons rfl (.cons rfl (.cons rfl (.cons rfl (.cons rfl (.cons rfl (.cons rfl (.cons rfl .nil)))))))))) ?_
  refine c_seq ?_
  refine c_region ?_
  refine l_move rfl rfl rfl ?_
  refine l_move rfl rfl rfl ?_
  refine l_call rfl rfl Try.func31 rfl rfl (.cons rfl (.cons rfl .nil)) (ShlN _ la hUa (by omega) n w10 (hw10.ikM ha)) ?_
  rintro _ w11 ⟨vl, ll, rfl, hl, hG⟩
  have hw11 := hG _ _ _ _ hw10
  try clear hG hw10
  simp only [List.cons_append, List.nil_append] at hw11
  refine l_move rfl rfl rfl ?_
  refine l_extract rfl rfl rfl rfl ?_
  refine l_extract rfl rfl rfl rfl ?_
  refine l_assign rfl rfl rfl ?_
  refine l_assign rfl rfl rfl ?_
  refine l_nil ?_
  refine e_then ?_
  refine c_keep [0, 1, 2, 3, 9, 13, 17, 18, 19, 20, 21, 22] (.cons rfl (.cons rfl (.cons rfl (.cons rfl (.cons rfl (.cons rfl (.cons rfl (.cons rfl (.cons rfl (.cons rfl (.cons rfl (.cons rfl .nil)))))))))))) ?_
  refine c_seq ?_
  refine c_region ?_
  refine l_move rfl rfl rfl ?_
  refine l_move rfl rfl rfl ?_
  refine l_call rfl rfl Try.func54 rfl rfl (.cons rfl (.cons rfl .nil)) (shlR2 _ la hUa (by omega) n w11 (hw11.ikM ha)) ?_
  rintro _ w12 ⟨vo, lo, rfl, ho, hG⟩
  have hw12 := hG _ _ _ _ hw11
  try clear hG hw11
  simp only [List.cons_append, List.nil_append] at hw12
  refine l_move rfl rfl rfl ?_
  refine l_extract rfl rfl rfl rfl ?_
  refine l_extract rfl rfl rfl rfl ?_
  refine l_assign rfl rfl rfl ?_
  refine l_assign rfl rfl rfl ?_
  refine l_nil ?_
  refine e_then ?_
  refine c_keep [0, 1, 2, 3, 9, 13, 17, 18, 19, 20, 21, 22, 23, 24] (.cons rfl (.cons rfl (.cons rfl (.cons rfl (.cons rfl (.cons rfl (.cons rfl (.cons rfl (.cons rfl (.cons rfl (.cons rfl (.cons rfl (.cons rfl (.cons rfl .nil)))))))))))))) ?_
  refine c_seq ?_
  refine c_seq ?_
  refine c_region ?_
  have lld := cn_len hd (k := 8960) (bl_sub hB00 bA)
  have llc := cn_len hc (k := 8960) (bl_sub hB00 bA)
  have lll := cn_len hl (k := 8960) (bl_shl hA0)
  have llo := cn_len ho (k := 8960) (bl_shl hA0)
  refine l_move rfl rfl rfl ?_
  refine l_move rfl rfl rfl ?_
  refine l_neqb Try.underlying4 rfl rfl rfl rfl ?_
  refine l_turn (s := 101) (v' := .bool false) rfl (by simp) ?_
  refine l_move rfl rfl rfl ?_
  refine l_move rfl rfl rfl ?_
  refine l_move rfl rfl rfl ?_
  refine l_call rfl rfl Try.func13 rfl rfl (.cons rfl (.cons rfl .nil)) (wordsK _ _ ld lc (cnU hd) (cnU hc) (by omega) (by omega) w12 (hw12.io mem3) (hw12.io mem2)) ?_
  rintro _ w13 ⟨rfl, hG⟩
  have hw13 := hG _ _ _ _ hw12
  try clear hG hw12
  simp only [List.cons_append, List.nil_append] at hw13
  refine l_turn (s := 105) (v' := .bool true) rfl (by rw [decide_eq_true (hd.eq (by omega) hc)]) ?_
  first | refine l_notd rfl rfl rfl ?_ | refine l_not rfl rfl rfl ?_
  refine l_turn (s := 106) (v' := .bool false) rfl (by rfl) ?_
  refine l_pick_f rfl rfl rfl rfl ?_
  refine l_move rfl rfl rfl ?_
  refine l_move rfl rfl rfl ?_
  refine l_callp rfl rfl Try.func12 rfl rfl (.cons rfl .nil) (numL _ _) ?_
  refine l_move rfl rfl rfl ?_
  refine l_neq rfl rfl rfl rfl ?_
  refine l_turn (s := 112) (v' := .bool false) rfl (by simp) ?_
  refine l_pick_f rfl rfl rfl rfl ?_
  refine l_move rfl rfl rfl ?_
  refine l_move rfl rfl rfl ?_
  refine l_move rfl rfl rfl ?_
  refine l_call rfl rfl Try.func13 rfl rfl (.cons rfl (.cons rfl .nil)) (wordsK _ _ ll lo (cnU hl) (cnU ho) (by omega) (by omega) w13 (hw13.io mem1) (hw13.io mem0)) ?_
  rintro _ w14 ⟨rfl, hG⟩
  have hw14 := hG _ _ _ _ hw13
  try clear hG hw13
  simp only [List.cons_append, List.nil_append] at hw14
  refine l_turn (s := 117) (v' := .bool true) rfl (by rw [decide_eq_true (hl.eq (by omega) ho)]) ?_
  first | refine l_notd rfl rfl rfl ?_ | refine l_not rfl rfl rfl ?_
  refine l_turn (s := 118) (v' := .bool false) rfl (by rfl) ?_
  refine l_pick_f rfl rfl rfl rfl ?_
  refine l_nil ?_
  refine e_then ?_
  refine c_keep [0, 1, 2, 3, 9, 13, 17, 21, 119] (.cons rfl (.cons rfl (.cons rfl (.cons rfl (.cons rfl (.cons rfl (.cons rfl (.cons rfl (.cons rfl .nil))))))))) ?_
  refine c_cond_f rfl rfl ?_
  refine c_skip ?_
  refine e_then ?_
  refine c_keep [0, 1, 2, 3, 9, 13, 17, 21] (.cons rfl (.cons rfl (.cons rfl (.cons rfl (.cons rfl (.cons rfl (.cons rfl (.cons rfl .nil)))))))) ?_
  refine c_seq ?_
  refine c_region ?_
  have hw15 := St.del (.tail (.tail .head)) hw14
  try clear hw14
  have hw16 := St.del .head hw15
  try clear hw15
  have hw17 := St.frontL (l := [_, _, _]) hw16
  simp only [List.cons_append, List.nil_append] at hw17
  try clear hw16
  have hw18 := St.frontL (l := [_, _, _, _, _, _, _, _]) hw17
  simp only [List.cons_append, List.nil_append] at hw18
  try clear hw17
  have hw19 := St.frontL (l := [_, _, _, _, _, _, _, _]) hw18
  simp only [List.cons_append, List.nil_append] at hw19
  try clear hw18
  have hw20 := St.frontL (l := [_, _, _, _, _, _, _, _]) hw19
  simp only [List.cons_append, List.nil_append] at hw20
  try clear hw19
  have hw21 := St.frontL (l := [_, _, _, _, _, _, _, _]) hw20
  simp only [List.cons_append, List.nil_append] at hw21
  try clear hw20
  have hw22 := St.frontL (l := [_, _, _, _, _, _, _, _]) hw21
  simp only [List.cons_append, List.nil_append] at hw22
  try clear hw21
  refine l_move rfl rfl rfl ?_
  refine l_move rfl rfl rfl ?_
  refine l_call rfl rfl Try.func36 rfl rfl (.cons rfl (.cons rfl .nil)) (addB kb vw0 vm0 vs an0 cp0 ls (cnU hs) (by omega) hB0 (by omega) w14 (St.rows (τ := book kb vw0 vm0 an0 cp0 ++ [As.ri 22 .u64 vs ls]) (σ := _) hw22)) ?_
  rintro _ w23 ⟨vw1, vm1, an1, cp1, rfl, hB1, hbl1, hin1, hX⟩
  have hw23 := hX _ _ _ _ hw22
  simp only [book, List.cons_append, List.nil_append] at hw23
  try clear hX hw22
  refine l_nil ?_
  refine e_then ?_
  refine c_keep [0, 1, 2, 3, 13, 17, 21] (.cons rfl (.cons rfl (.cons rfl (.cons rfl (.cons rfl (.cons rfl (.cons rfl .nil))))))) ?_
  refine c_seq ?_
  refine c_region ?_
  have hw24 := St.frontL (l := [_, _, _, _, _, _, _]) hw23
  simp only [List.cons_append, List.nil_append] at hw24
  try clear hw23
  have hw25 := St.frontL (l := [_, _, _, _, _]) hw24
  simp only [List.cons_append, List.nil_append] at hw25
  try clear hw24
  have hw26 := St.frontL (l := [_, _, _, _, _]) hw25
  simp only [List.cons_append, List.nil_append] at hw26
  try clear hw25
  have hw27 := St.frontL (l := [_, _, _, _, _]) hw26
  simp only [List.cons_append, List.nil_append] at hw27
  try clear hw26
  have hw28 := St.frontL (l := [_, _, _, _, _]) hw27
  simp only [List.cons_append, List.nil_append] at hw28
  try clear hw27
  have hw29 := St.frontL (l := [_, _, _, _, _]) hw28
  simp only [List.cons_append, List.nil_append] at hw29
  try clear hw28
  refine l_move rfl rfl rfl ?_
  refine l_move rfl rfl rfl ?_
  refine l_call rfl rfl Try.func36 rfl rfl (.cons rfl (.cons rfl .nil)) (addB kb vw1 vm1 vp an1 cp1 lp (cnU hp) (by omega) hB1 (by omega) w23 (St.rows (τ := book kb vw1 vm1 an1 cp1 ++ [As.ri 22 .u64 vp lp]) (σ := _) hw29)) ?_
  rintro _ w30 ⟨vw2, vm2, an2, cp2, rfl, hB2, hbl2, hin2, hX⟩
  have hw30 := hX _ _ _ _ hw29
  simp only [book, List.cons_append, List.nil_append] at hw30
  try clear hX hw29
  refine l_nil ?_
  refine e_then ?_
  refine c_keep [0, 1, 2, 3, 17, 21] (.cons rfl (.cons rfl (.cons rfl (.cons rfl (.cons rfl (.cons rfl .nil)))))) ?_
  refine c_seq ?_
  refine c_region ?_
  have hw31 := St.frontL (l := [_, _, _, _, _, _]) hw30
  simp only [List.cons_append, List.nil_append] at hw31
  try clear hw30
  have hw32 := St.frontL (l := [_, _, _, _, _]) hw31
  simp only [List.cons_append, List.nil_append] at hw32
  try clear hw31
  have hw33 := St.frontL (l := [_, _, _, _, _]) hw32
  simp only [List.cons_append, List.nil_append] at hw33
  try clear hw32
  have hw34 := St.frontL (l := [_, _, _, _, _]) hw33
  simp only [List.cons_append, List.nil_append] at hw34
  try clear hw33
  have hw35 := St.frontL (l := [_, _, _, _, _]) hw34
  simp only [List.cons_append, List.nil_append] at hw35
  try clear hw34
  have hw36 := St.frontL (l := [_, _, _, _, _]) hw35
  simp only [List.cons_append, List.nil_append] at hw36
  try clear hw35
  refine l_move rfl rfl rfl ?_
  refine l_move rfl rfl rfl ?_
  refine l_call rfl rfl Try.func36 rfl rfl (.cons rfl (.cons rfl .nil)) (addB kb vw2 vm2 vd an2 cp2 ld (cnU hd) (by omega) hB2 (by omega) w30 (St.rows (τ := book kb vw2 vm2 an2 cp2 ++ [As.ri 22 .u64 vd ld]) (σ := _) hw36)) ?_
  rintro _ w37 ⟨vw3, vm3, an3, cp3, rfl, hB3, hbl3, hin3, hX⟩
  have hw37 := hX _ _ _ _ hw36
  simp only [book, List.cons_append, List.nil_append] at hw37
  try clear hX hw36
  refine l_nil ?_
  refine e_then ?_
  refine c_keep [0, 1, 2, 3, 21] (.cons rfl (.cons rfl (.cons rfl (.cons rfl (.cons rfl .nil))))) ?_
  refine c_seq ?_
  refine c_region ?_
  have hw38 := St.frontL (l := [_, _, _, _, _]) hw37
  simp only [List.cons_append, List.nil_append] at hw38
  try clear hw37
  have hw39 := St.frontL (l := [_, _, _, _, _]) hw38
  simp only [List.cons_append, List.nil_append] at hw39
  try clear hw38
  have hw40 := St.frontL (l := [_, _, _, _, _]) hw39
  simp only [List.cons_append, List.nil_append] at hw40
  try clear hw39
  have hw41 := St.frontL (l := [_, _, _, _, _]) hw40
  simp only [List.cons_append, List.nil_append] at hw41
  try clear hw40
  have hw42 := St.frontL (l := [_, _, _, _, _]) hw41
  simp only [List.cons_append, List.nil_append] at hw42
  try clear hw41
  have hw43 := St.frontL (l := [_, _, _, _, _]) hw42
  simp only [List.cons_append, List.nil_append] at hw43
  try clear hw42
  refine l_move rfl rfl rfl ?_
  refine l_move rfl rfl rfl ?_
  refine l_call rfl rfl Try.func36 rfl rfl (.cons rfl (.cons rfl .nil)) (addB kb vw3 vm3 vl an3 cp3 ll (cnU hl) (by omega) hB3 (by omega) w37 (St.rows (τ := book kb vw3 vm3 an3 cp3 ++ [As.ri 22 .u64 vl ll]) (σ := _) hw43)) ?_
  rintro _ w44 ⟨vw4, vm4, an4, cp4, rfl, hB4, hbl4, hin4, hX⟩
  have hw44 := hX _ _ _ _ hw43
  simp only [book, List.cons_append, List.nil_append] at hw44
  try clear hX hw43
  refine l_nil ?_
  refine e_then ?_
  refine c_keep [0, 1, 2, 3] (.cons rfl (.cons rfl (.cons rfl (.cons rfl .nil)))) ?_
  refine c_seq ?_
  refine c_region ?_
  refine l_move rfl rfl rfl ?_
  refine l_move rfl rfl rfl ?_
  refine l_call rfl rfl Try.func32 rfl rfl (.cons rfl (.cons rfl .nil)) (ShrN _ la hUa (by omega) n w44 (hw44.ikM ha)) ?_
  rintro _ w45 ⟨vr, lr, rfl, hr, hG⟩
  have hw45 := hG _ _ _ _ hw44
  try clear hG hw44
  simp only [List.cons_append, List.nil_append] at hw45
  refine l_move rfl rfl rfl ?_
  refine l_extract rfl rfl rfl rfl ?_
  refine l_extract rfl rfl rfl rfl ?_
  refine l_extract rfl rfl rfl rfl ?_
  refine l_assign rfl rfl rfl ?_
  refine l_assign rfl rfl rfl ?_
  refine l_assign rfl rfl rfl ?_
  refine l_nil ?_
  refine e_then ?_
  refine c_keep [0, 1, 2, 3, 22, 25, 26] (.cons rfl (.cons rfl (.cons rfl (.cons rfl (.cons rfl (.cons rfl (.cons rfl .nil))))))) ?_
  refine c_seq ?_
  refine c_region ?_
  refine l_move rfl rfl rfl ?_
  refine l_move rfl rfl rfl ?_
  refine l_call rfl rfl Try.func55 rfl rfl (.cons rfl (.cons rfl .nil)) (shrR2 _ la hUa (by omega) n (by omega) w45 (hw45.ikM ha)) ?_
  rintro _ w46 ⟨vv, lv, rfl, hv, hG⟩
  have hw46 := hG _ _ _ _ hw45
  try clear hG hw45
  simp only [List.cons_append, List.nil_append] at hw46
  refine l_move rfl rfl rfl ?_
  refine l_extract rfl rfl rfl rfl ?_
  refine l_extract rfl rfl rfl rfl ?_
  refine l_extract rfl rfl rfl rfl ?_
  refine l_assign rfl rfl rfl ?_
  refine l_assign rfl rfl rfl ?_
  refine l_assign rfl rfl rfl ?_
  refine l_nil ?_
  refine e_then ?_
  refine c_keep [0, 1, 2, 22, 24, 25, 26, 27, 28] (.cons rfl (.cons rfl (.cons rfl (.cons rfl (.cons rfl (.cons rfl (.cons rfl (.cons rfl (.cons rfl .nil))))))))) ?_
  refine c_seq ?_
  refine c_region ?_
  have llr := cn_len hr (k := 8960) (bl_shr hA0)
  have llv := cn_len hv (k := 8960) (bl_shr hA0)
  have hw47 := St.frontL (l := [_]) hw46
  simp only [List.cons_append, List.nil_append] at hw47
  try clear hw46
  have hw48 := St.frontL (l := [_, _, _, _, _, _]) hw47
  simp only [List.cons_append, List.nil_append] at hw48
  try clear hw47
  have hw49 := St.frontL (l := [_, _, _, _, _, _]) hw48
  simp only [List.cons_append, List.nil_append] at hw49
  try clear hw48
  have hw50 := St.frontL (l := [_, _, _, _, _, _]) hw49
  simp only [List.cons_append, List.nil_append] at hw50
  try clear hw49
  have hw51 := St.frontL (l := [_, _, _, _, _, _]) hw50
  simp only [List.cons_append, List.nil_append] at hw51
  try clear hw50
  have hw52 := St.frontL (l := [_, _, _, _, _, _]) hw51
  simp only [List.cons_append, List.nil_append] at hw52
  try clear hw51
  refine l_move rfl rfl rfl ?_
  refine l_move rfl rfl rfl ?_
  refine l_call rfl rfl Try.func36 rfl rfl (.cons rfl (.cons rfl .nil)) (addB kb vw4 vm4 vr an4 cp4 lr (cnU hr) (by omega) hB4 (by omega) w46 (St.rows (τ := book kb vw4 vm4 an4 cp4 ++ [As.ri 22 .u64 vr lr]) (σ := _) hw52)) ?_
  rintro _ w53 ⟨vw5, vm5, an5, cp5, rfl, hB5, hbl5, hin5, hX⟩
  have hw53 := hX _ _ _ _ hw52
  simp only [book, List.cons_append, List.nil_append] at hw53
  try clear hX hw52
  refine l_nil ?_
  refine e_then ?_
  refine c_keep [1, 2, 22, 24, 25, 26, 27, 28] (.cons rfl (.cons rfl (.cons rfl (.cons rfl (.cons rfl (.cons rfl (.cons rfl (.cons rfl .nil)))))))) ?_
  refine c_seq ?_
  refine c_region ?_
  refine l_move rfl rfl rfl ?_
  refine l_move rfl rfl rfl ?_
  refine l_call rfl rfl Try.func13 rfl rfl (.cons rfl (.cons rfl .nil)) (wordsK _ _ lr lv (cnU hr) (cnU hv) (by omega) (by omega) w53 (bag_iv hw53 mem3 (bag_mem hin5)) (hw53.io mem5)) ?_
  rintro _ w54 ⟨rfl, hG⟩
  have hw54 := hG _ _ _ _ hw53
  try clear hG hw53
  simp only [List.cons_append, List.nil_append] at hw54
  refine l_turn (s := 151) (v' := .bool true) rfl (by rw [decide_eq_true (hr.eq (by omega) hv)]) ?_
  refine l_move rfl rfl rfl ?_
  refine l_move rfl rfl rfl ?_
  refine l_move rfl rfl rfl ?_
  refine l_eqlb Try.underlying4 rfl rfl rfl rfl ?_
  refine l_turn (s := 155) (v' := .bool true) rfl (by simp) ?_
  refine l_pick_t rfl rfl rfl rfl ?_
  refine l_move rfl rfl rfl ?_
  refine l_move rfl rfl rfl ?_
  refine l_callp rfl rfl Try.func12 rfl rfl (.cons rfl .nil) (numL _ _) ?_
  refine l_move rfl rfl rfl ?_
  refine l_eql rfl rfl rfl rfl ?_
  refine l_turn (s := 161) (v' := .bool true) rfl (by simp) ?_
  refine l_pick_t rfl rfl rfl rfl ?_
  refine l_move rfl rfl rfl ?_
  refine l_move rfl rfl rfl ?_
  refine l_call rfl rfl Try.func37 rfl rfl (.cons rfl .nil) (lenV _ la hUa (by omega) w54 (hw54.ikM ha)) ?_
  rintro _ _ ⟨rfl, rfl⟩
  refine l_move rfl rfl rfl ?_
  refine l_call rfl rfl Try.func56 rfl rfl (.cons rfl .nil) (lenR _ la hUa (by omega) w54 (hw54.ikM ha)) ?_
  rintro _ w55 ⟨rfl, hG⟩
  have hw55 := hG _ _ _ _ hw54
  try clear hG hw54
  simp only [List.cons_append, List.nil_append] at hw55
  refine l_eql rfl rfl rfl rfl ?_
  refine l_turn (s := 168) (v' := .bool true) rfl (by simp) ?_
  refine l_pick_t rfl rfl rfl rfl ?_
  refine l_move rfl rfl rfl ?_
  refine l_move rfl rfl rfl ?_
  refine l_move rfl rfl rfl ?_
  refine l_call rfl rfl Try.func33 rfl rfl (.cons rfl (.cons rfl .nil)) (cmpN _ _ la lb hUa hUb (by omega) (by omega) w55 (hw55.ikM ha) (hw55.ikM hb)) ?_
  rintro _ w56 ⟨rfl, hG⟩
  have hw56 := hG _ _ _ _ hw55
  try clear hG hw55
  simp only [List.cons_append, List.nil_append] at hw56
  refine l_move rfl rfl rfl ?_
  refine l_move rfl rfl rfl ?_
  refine l_call rfl rfl Try.func57 rfl rfl (.cons rfl (.cons rfl .nil)) (cmpR2 _ _ la lb hUa hUb (by omega) (by omega) w56 (hw56.ikM ha) (hw56.ikM hb)) ?_
  rintro _ w57 ⟨rfl, hG⟩
  have hw57 := hG _ _ _ _ hw56
  try clear hG hw56
  simp only [List.cons_append, List.nil_append] at hw57
  refine l_eql rfl rfl rfl rfl ?_
  refine l_turn (s := 177) (v' := .bool true) rfl (by simp) ?_
  refine l_pick_t rfl rfl rfl rfl ?_
  refine l_assign rfl rfl rfl ?_
  refine l_nil ?_
  refine e_then ?_
  refine c_keep [8] (.cons rfl .nil) ?_
  refine c_ret ?_
  refine e_done1 Try.results26 rfl ?_
  refine ⟨_, rfl, ?_⟩
  have hw58 := St.del (.tail (.tail (.tail (.tail (.tail .head))))) hw57
  try clear hw57
  exact ⟨rfl, _, _, _, _, hB5, by omega, St.transS (τ' := book kb vw5 vm5 an5 cp5) hw58⟩
theorem natSumsL (a b : Value) (la lb : List Int) (hUa : U la) (hUb : U lb) (n : Int) (hn : -9223372036854775808 ≤ n ∧ n ≤ 9223372036854775807) (w : World) (ha : IV w a (ints .u64 la)) (hb : IV w b (ints .u64 lb)) :
    CallsV P 5 [a, b, .int .i64 n] w fun r w' => r = .bool true ∧ Grow w w' [] := by
  refine enterW Try.func5 rfl Try.ntmps5 rfl ?_
  have hw0 := St.start w
  refine c_seq ?_
  refine c_region ?_
  refine l_assign rfl rfl rfl ?_
  refine l_nil ?_
  refine e_then ?_
  refine c_keep [0, 1, 2] (.cons rfl (.cons rfl (.cons rfl .nil))) ?_
  refine c_seq ?_
  refine c_region ?_
  refine l_move rfl rfl rfl ?_
  refine l_call rfl rfl Try.func20 rfl rfl (.cons rfl .nil) (cutL a la w ha) ?_
  rintro va _ ⟨hv1, rfl⟩
  have hma0 : U (la.take 140) := fun x hx => hUa x (List.mem_of_mem_take hx)
  have lma0 : (la.take 140).length ≤ 140 := by rw [List.length_take]; omega
  generalize hmae : la.take 140 = ma at hv1 hma0 lma0
  have hma : U ma := hma0
  have lma : ma.length ≤ 140 := lma0
  refine l_move rfl rfl rfl ?_
  refine l_call rfl rfl Try.func20 rfl rfl (.cons rfl .nil) (cutL b lb w hb) ?_
  rintro vb _ ⟨hv2, rfl⟩
  have hmb0 : U (lb.take 140) := fun x hx => hUb x (List.mem_of_mem_take hx)
  have lmb0 : (lb.take 140).length ≤ 140 := by rw [List.length_take]; omega
  generalize hmbe : lb.take 140 = mb at hv2 hmb0 lmb0
  have hmb : U mb := hmb0
  have lmb : mb.length ≤ 140 := lmb0
  refine l_assign rfl rfl rfl ?_
  refine l_assign rfl rfl rfl ?_
  refine l_nil ?_
  refine e_then ?_
  refine c_keep [0, 1, 2] (.cons rfl (.cons rfl (.cons rfl .nil))) ?_
  refine c_seq ?_
  refine c_region ?_
  refine l_move rfl rfl rfl ?_
  refine l_call rfl rfl Try.func25 rfl rfl (.cons rfl .nil) (lendW _ ma hma (by omega) w (hw0.iarg hv1)) ?_
  rintro _ w1 ⟨Ax, cx, rfl, hG⟩
  have hw1 := hG _ _ _ _ hw0
  try clear hG hw0
  simp only [List.cons_append, List.nil_append] at hw1
  obtain ⟨adx, rfl⟩ := some_ok (hw1.ok mem0)
  refine l_move rfl rfl rfl ?_
  refine l_call rfl rfl Try.func25 rfl rfl (.cons rfl .nil) (lendW _ mb hmb (by omega) w1 (hw1.iarg hv2)) ?_
  rintro _ w2 ⟨Ay, cy, rfl, hG⟩
  have hw2 := hG _ _ _ _ hw1
  try clear hG hw1
  simp only [List.cons_append, List.nil_append] at hw2
  obtain ⟨ady, rfl⟩ := some_ok (hw2.ok mem0)
  refine l_assign rfl rfl rfl ?_
  refine l_assign rfl rfl rfl ?_
  refine l_nil ?_
  refine e_then ?_
  refine c_keep [0, 1, 2, 7, 8] (.cons rfl (.cons rfl (.cons rfl (.cons rfl (.cons rfl .nil))))) ?_
  refine c_seq ?_
  refine c_region ?_
  refine l_buildS rfl rfl pl51 ta51 .nil ?_
  refine l_box hw2 rfl rfl rfl (fun b3_1 w3 hw3 => ?_)
  try clear hw2
  refine l_assign rfl rfl rfl ?_
  refine l_nil ?_
  refine e_then ?_
  refine c_keep [0, 1, 2, 7, 8, 9] (.cons rfl (.cons rfl (.cons rfl (.cons rfl (.cons rfl (.cons rfl .nil)))))) ?_
  refine c_seq ?_
  refine c_seq ?_
  refine c_region ?_
  have hB0 := Bk.nil
  have hw4 := (((bag_nil (E := 22) (bag_nil (E := 22) hw3)).nil 25).nil 25).front4
  try clear hw3
  refine l_move rfl rfl rfl ?_
  refine l_move rfl rfl rfl ?_
  refine l_move rfl rfl rfl ?_
  refine l_move rfl rfl rfl ?_
  refine l_call rfl rfl Try.func26 rfl rfl (.cons rfl (.cons rfl (.cons rfl (.cons rfl .nil)))) (asksL b3_1 (.slice none 0 0) (.slice none 0 0) [] [] (.slice (some adx) ma.length cx) (.slice (some ady) mb.length cy) ma mb n hn hma hmb lma lmb hB0 (by first | (simp; done) | omega) w3 (St.rows (τ := book b3_1 (.slice none 0 0) (.slice none 0 0) [] []) (σ := _) hw4) (fun w1 h1 => head_ok (St.restKeeps (τ := book b3_1 (.slice none 0 0) (.slice none 0 0) [] []) hw4 mem1 w1 h1)) (fun w1 h1 => head_ok (St.restKeeps (τ := book b3_1 (.slice none 0 0) (.slice none 0 0) [] []) hw4 mem0 w1 h1))) ?_
  rintro _ w5 ⟨rfl, vw1, vm1, an1, cp1, hB1, hbl1, hX⟩
  have hw5 := hX _ _ _ _ hw4
  simp only [book, List.cons_append, List.nil_append] at hw5
  try clear hX hw4
  have hbl1b : an1.length = 5 := by simpa using hbl1
  refine l_turn (s := 24) (v' := .bool true) rfl (by rfl) ?_
  first | refine l_notd rfl rfl rfl ?_ | refine l_not rfl rfl rfl ?_
  refine l_turn (s := 25) (v' := .bool false) rfl (by rfl) ?_
  refine l_move rfl rfl rfl ?_
  refine l_move rfl rfl rfl ?_
  refine l_move rfl rfl rfl ?_
  refine l_move rfl rfl rfl ?_
  refine l_move rfl rfl rfl ?_
  refine l_bits rfl rfl rfl rfl rfl (and_255 hn) ?_
  refine l_call rfl rfl Try.func26 rfl rfl (.cons rfl (.cons rfl (.cons rfl (.cons rfl .nil)))) (asksL b3_1 vw1 vm1 an1 cp1 (.slice (some ady) mb.length cy) (.slice (some adx) ma.length cx) mb ma (n % 256) (by omega) hmb hma lmb lma hB1 (by first | (simp; done) | omega) w5 (St.rows (τ := book b3_1 vw1 vm1 an1 cp1) (σ := _) hw5) (fun w1 h1 => head_ok (St.restKeeps (τ := book b3_1 vw1 vm1 an1 cp1) hw5 mem0 w1 h1)) (fun w1 h1 => head_ok (St.restKeeps (τ := book b3_1 vw1 vm1 an1 cp1) hw5 mem1 w1 h1))) ?_
  rintro _ w6 ⟨rfl, vw2, vm2, an2, cp2, hB2, hbl2, hX⟩
  have hw6 := hX _ _ _ _ hw5
  simp only [book, List.cons_append, List.nil_append] at hw6
  try clear hX hw5
  refine l_turn (s := 32) (v' := .bool true) rfl (by rfl) ?_
  first | refine l_notd rfl rfl rfl ?_ | refine l_not rfl rfl rfl ?_
  refine l_turn (s := 33) (v' := .bool false) rfl (by rfl) ?_
  refine l_pick_f rfl rfl rfl rfl ?_
  refine l_nil ?_
  refine e_then ?_
  refine c_keep [0, 1, 7, 8, 9, 34] (.cons rfl (.cons rfl (.cons rfl (.cons rfl (.cons rfl (.cons rfl .nil)))))) ?_
  refine c_cond_f rfl rfl ?_
  refine c_skip ?_
  refine e_then ?_
  refine c_keep [0, 1, 7, 8, 9] (.cons rfl (.cons rfl (.cons rfl (.cons rfl (.cons rfl .nil))))) ?_
  refine c_seq ?_
  refine c_region ?_
  refine l_move rfl rfl rfl ?_
  refine l_move rfl rfl rfl ?_
  refine l_call rfl rfl Try.func27 rfl rfl (.cons rfl (.cons rfl .nil)) (backW adx cx va ma hma (by omega) w6 (hw6.ok mem6) (hw6.rowlt mem6) (hw6.keepsArg mem6 hv1)) ?_
  rintro _ w7 ⟨rfl, lox, hT⟩
  have hw7 := hT _ _ _ _ _ (.tail (.tail (.tail (.tail (.tail (.tail .head)))))) hw6
  try clear hT hw6
  refine l_turn (s := 37) (v' := .bool true) rfl (by rfl) ?_
  refine l_move rfl rfl rfl ?_
  refine l_move rfl rfl rfl ?_
  refine l_move rfl rfl rfl ?_
  refine l_call rfl rfl Try.func27 rfl rfl (.cons rfl (.cons rfl .nil)) (backW ady cy vb mb hmb (by omega) w7 (hw7.ok mem5) (hw7.rowlt mem5) (hw7.keepsArg mem5 hv2)) ?_
  rintro _ w8 ⟨rfl, loy, hT⟩
  have hw8 := hT _ _ _ _ _ (.tail (.tail (.tail (.tail (.tail .head))))) hw7
  try clear hT hw7
  refine l_turn (s := 41) (v' := .bool true) rfl (by rfl) ?_
  refine l_pick_t rfl rfl rfl rfl ?_
  refine l_move rfl rfl rfl ?_
  refine l_move rfl rfl rfl ?_
  refine l_call rfl rfl Try.func28 rfl rfl (.cons rfl .nil) (bookClose b3_1 vw2 vm2 an2 cp2 (by omega) hB2.1 (fun i hi => (hB2.2 i hi).1) (fun i hi => (hB2.2 i hi).2.1) (fun i hi => (hB2.2 i hi).2.2) w8 (St.rows (τ := book b3_1 vw2 vm2 an2 cp2) (σ := _) hw8)) ?_
  rintro _ w9 ⟨rfl, hX⟩
  have hw9 := hX _ _ _ _ hw8
  simp only [List.nil_append] at hw9
  try clear hX hw8
  refine l_turn (s := 45) (v' := .bool true) rfl (by rfl) ?_
  refine l_pick_t rfl rfl rfl rfl ?_
  refine l_move rfl rfl rfl ?_
  refine l_call rfl rfl Try.func19 rfl rfl .nil (wakesL w9) ?_
  rintro _ w10 ⟨rfl, hG⟩
  have hw10 := hG _ _ _ _ hw9
  try clear hG hw9
  simp only [List.cons_append, List.nil_append] at hw10
  refine l_turn (s := 48) (v' := .bool true) rfl (by rfl) ?_
  refine l_pick_t rfl rfl rfl rfl ?_
  refine l_assign rfl rfl rfl ?_
  refine l_nil ?_
  refine e_then ?_
  refine c_keep [6] (.cons rfl .nil) ?_
  refine c_ret ?_
  refine e_done1 Try.results5 rfl ?_
  refine ⟨_, rfl, ?_⟩
  have hw11 := St.del (.tail .head) hw10
  try clear hw10
  have hw12 := St.del .head hw11
  try clear hw11
  exact ⟨rfl, hw12.grows⟩
end Go.Proofs.Ytnddfmjmeghkjaa.W
