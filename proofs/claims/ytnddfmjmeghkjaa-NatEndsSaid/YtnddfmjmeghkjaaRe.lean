/- walks of the reference's Len, Cmp, long, Add, Sub, Mul, Shl, Shr -/
import Derived.Test.YtnddfmjmeghkjaaRd
import Derived.Test.YtnddfmjmeghkjaaFl
set_option linter.unusedVariables false
set_option linter.unusedSimpArgs false
set_option maxRecDepth 10000
namespace Go.Proofs.Ytnddfmjmeghkjaa.W
open Go.Vc Go.RowKit

theorem blen_add {x y : Int} (hx0 : 0 ≤ x) (hy0 : 0 ≤ y) {m : Nat} (hx : Ma.blen x ≤ m) (hy : Ma.blen y ≤ m) : Ma.blen (x + y) ≤ (m + 1 : Nat) := by
  refine (Ma.blen_le_iff (by omega) (m + 1)).2 ?_
  have h1 := (Ma.blen_le_iff hx0 m).1 hx
  have h2 := (Ma.blen_le_iff hy0 m).1 hy
  rw [Int.pow_succ]
  omega
theorem sum_len {l : List Int} {n : Int} (h : R16 l n) (hb : Ma.blen n ≤ (16384 : Nat)) : l.length ≤ 1025 := by
  have := h.len (k := 16384) hb
  omega
theorem R16.len_mono {l m : List Int} {a b : Int} (h : R16 l a) (k : R16 m b) (hab : a ≤ b) : l.length ≤ m.length := by
  rcases Nat.lt_or_ge m.length l.length with h1 | h1
  · have := k.lt_of_len (show (1 : Int) < 65536 by omega) h h1
    omega
  · exact h1
theorem num_blen {l ls : List Int} (hU : U l) (h : R16 ls (nv l)) (hL : l.length ≤ 65536) : ls.length ≤ 262145 := by
  have := R16.len_num hU h
  omega

theorem lenR (v : Value) (l : List Int) (hU : U l) (hL : l.length ≤ 65536) (w : World) (hv : IV w v (ints .u64 l)) :
    CallsV P 56 [v] w fun r w' => r = .int .i64 (Ma.blen (nv l)) ∧ Grow w w' [] := by
  refine enterW Try.func56 rfl Try.ntmps56 rfl ?_
  have hw0 := St.start w
  refine c_seq ?_
  refine c_region ?_
  refine l_assign rfl rfl rfl ?_
  refine l_nil ?_
  refine e_then ?_
  refine c_keep [0] (.cons rfl .nil) ?_
  refine c_seq ?_
  refine c_region ?_
  refine l_move rfl rfl rfl ?_
  refine l_call rfl rfl Try.func16 rfl rfl (.cons rfl .nil) (numR v l hU (by omega) w (hw0.iarg hv)) ?_
  rintro vn w1 ⟨_, ln, rfl, hRn, hG⟩
  have hw1 := hG _ _ _ _ hw0
  try clear hG hw0
  simp only [List.cons_append, List.nil_append] at hw1
  refine l_callp rfl rfl Try.func41 rfl rfl (.cons rfl .nil) (bitsR vn ln _ hRn (by have := num_blen hU hRn hL; omega) w1 (hw1.io mem0)) ?_
  refine l_assign rfl rfl rfl ?_
  refine l_nil ?_
  refine e_then ?_
  refine c_keep [2] (.cons rfl .nil) ?_
  refine c_ret ?_
  refine e_done1 Try.results56 rfl ?_
  refine ⟨_, rfl, ?_⟩
  have hw2 := St.del .head hw1
  try clear hw1
  exact ⟨rfl, hw2.grows⟩
theorem longR (v : Value) (l : List Int) (hU : U l) (hL : l.length ≤ 65536) (w : World) (hv : IV w v (ints .u64 l)) :
    CallsV P 67 [v] w fun r w' => r = .bool (decide (8192 < Ma.blen (nv l))) ∧ Grow w w' [] := by
  refine enterW Try.func67 rfl Try.ntmps67 rfl ?_
  have hw0 := St.start w
  refine c_seq ?_
  refine c_region ?_
  refine l_assign rfl rfl rfl ?_
  refine l_nil ?_
  refine e_then ?_
  refine c_keep [0] (.cons rfl .nil) ?_
  refine c_seq ?_
  refine c_region ?_
  refine l_move rfl rfl rfl ?_
  refine l_call rfl rfl Try.func16 rfl rfl (.cons rfl .nil) (numR v l hU (by omega) w (hw0.iarg hv)) ?_
  rintro vn w1 ⟨_, ln, rfl, hRn, hG⟩
  have hw1 := hG _ _ _ _ hw0
  try clear hG hw0
  simp only [List.cons_append, List.nil_append] at hw1
  refine l_callp rfl rfl Try.func41 rfl rfl (.cons rfl .nil) (bitsR vn ln _ hRn (by have := num_blen hU hRn hL; omega) w1 (hw1.io mem0)) ?_
  refine l_gtr rfl rfl rfl rfl ?_
  refine l_assign rfl rfl rfl ?_
  refine l_nil ?_
  refine e_then ?_
  refine c_keep [2] (.cons rfl .nil) ?_
  refine c_ret ?_
  refine e_done1 Try.results67 rfl ?_
  refine ⟨_, rfl, ?_⟩
  have hw2 := St.del .head hw1
  try clear hw1
  exact ⟨rfl, hw2.grows⟩
theorem cmpR2 (a b : Value) (la lb : List Int) (hUa : U la) (hUb : U lb) (hLa : la.length ≤ 65536) (hLb : lb.length ≤ 65536) (w : World) (ha : IV w a (ints .u64 la)) (hb : IV w b (ints .u64 lb)) :
    CallsV P 57 [a, b] w fun r w' => r = .int .i64 (cmpI (nv la) (nv lb)) ∧ Grow w w' [] := by
  refine enterW Try.func57 rfl Try.ntmps57 rfl ?_
  have hw0 := St.start w
  refine c_seq ?_
  refine c_region ?_
  refine l_assign rfl rfl rfl ?_
  refine l_nil ?_
  refine e_then ?_
  refine c_keep [0, 1] (.cons rfl (.cons rfl .nil)) ?_
  refine c_seq ?_
  refine c_region ?_
  refine l_move rfl rfl rfl ?_
  refine l_call rfl rfl Try.func16 rfl rfl (.cons rfl .nil) (numR a la hUa (by omega) w (hw0.iarg ha)) ?_
  rintro vna w1 ⟨_, lna, rfl, hRa, hG⟩
  have hw1 := hG _ _ _ _ hw0
  try clear hG hw0
  simp only [List.cons_append, List.nil_append] at hw1
  refine l_move rfl rfl rfl ?_
  refine l_call rfl rfl Try.func16 rfl rfl (.cons rfl .nil) (numR b lb hUb (by omega) w1 (hw1.iarg hb)) ?_
  rintro vnb w2 ⟨_, lnb, rfl, hRb, hG⟩
  have hw2 := hG _ _ _ _ hw1
  try clear hG hw1
  simp only [List.cons_append, List.nil_append] at hw2
  refine l_call rfl rfl Try.func75 rfl rfl (.cons rfl (.cons rfl .nil)) (cmpR _ _ _ _ _ _ hRa hRb (by have := num_blen hUa hRa hLa; omega) (by have := num_blen hUb hRb hLb; omega) w2 (hw2.io mem1) (hw2.io mem0)) ?_
  rintro _ w3 ⟨rfl, hG⟩
  have hw3 := hG _ _ _ _ hw2
  try clear hG hw2
  simp only [List.cons_append, List.nil_append] at hw3
  refine l_assign rfl rfl rfl ?_
  refine l_nil ?_
  refine e_then ?_
  refine c_keep [4] (.cons rfl .nil) ?_
  refine c_ret ?_
  refine e_done1 Try.results57 rfl ?_
  refine ⟨_, rfl, ?_⟩
  have hw4 := St.del (.tail .head) hw3
  try clear hw3
  have hw5 := St.del .head hw4
  try clear hw4
  exact ⟨rfl, hw5.grows⟩
theorem addR2 (a b : Value) (la lb : List Int) (hUa : U la) (hUb : U lb) (hLa : la.length ≤ 65536) (hLb : lb.length ≤ 65536) (w : World) (ha : IV w a (ints .u64 la)) (hb : IV w b (ints .u64 lb)) :
    CallsV P 51 [a, b] w fun r w' => NatR w w' r (if 8192 < Ma.blen (nv la) ∨ 8192 < Ma.blen (nv lb) ∨ 8192 < Ma.blen (nv la + nv lb) then 21 else 0) (if 8192 < Ma.blen (nv la) ∨ 8192 < Ma.blen (nv lb) ∨ 8192 < Ma.blen (nv la + nv lb) then 0 else nv la + nv lb) := by
  refine enterW Try.func51 rfl Try.ntmps51 rfl ?_
  have hw0 := St.start w
  refine c_seq ?_
  refine c_region ?_
  refine l_assign rfl rfl rfl ?_
  refine l_assign rfl rfl rfl ?_
  refine l_nil ?_
  refine e_then ?_
  refine c_keep [0, 1] (.cons rfl (.cons rfl .nil)) ?_
  refine c_seq ?_
  refine c_seq ?_
  refine c_region ?_
  refine l_move rfl rfl rfl ?_
  refine l_call rfl rfl Try.func67 rfl rfl (.cons rfl .nil) (longR a la hUa hLa w (hw0.iarg ha)) ?_
  rintro _ w1 ⟨rfl, hG⟩
  have hw1 := hG _ _ _ _ hw0
  try clear hG hw0
  simp only [List.cons_append, List.nil_append] at hw1
  refine l_move rfl rfl rfl ?_
  apply l_orS hw1 2 [0, 1] rfl rfl (.cons rfl (.cons rfl (.cons rfl .nil))) rfl rfl (fun _ => rfl) rfl rfl rfl
  · intro hg1_3
    refine l_move rfl rfl rfl ?_
    refine l_call rfl rfl Try.func67 rfl rfl (.cons rfl .nil) (longR b lb hUb hLb w1 (hw1.iarg hb)) ?_
    rintro _ w2 ⟨rfl, hG⟩
    have hw2 := hG _ _ _ _ hw1
    try clear hG hw1
    simp only [List.cons_append, List.nil_append] at hw2
    refine l_nil ?_
    exact e_staysS hw2 rfl (.cons rfl (congrArg Value.bool (decide_eq_false hg1_3).symm) (.cons rfl rfl (.cons rfl rfl .nil)))
  intro w3 hw3
  try clear hw1
  refine l_nil ?_
  refine e_then ?_
  refine c_keep [0, 1, 11] (.cons rfl (.cons rfl (.cons rfl .nil))) ?_
  first | refine c_cond rfl (fun hc0 => ?_) (fun hc0 => ?_) | refine c_condb rfl (fun hc0 => ?_) (fun hc0 => ?_)
  · skip
    have hbad : 8192 < Ma.blen (nv la) ∨ 8192 < Ma.blen (nv lb) := hc0
    refine c_seq ?_
    refine c_region ?_
    refine l_assign rfl rfl rfl ?_
    refine l_assign rfl rfl rfl ?_
    refine l_nil ?_
    refine e_then ?_
    refine c_keep [4, 5] (.cons rfl (.cons rfl .nil)) ?_
    refine c_ret ?_
    refine e_then_ret ?_
    refine e_done2 Try.results51 rfl rfl ?_
    refine ⟨_, rfl, ?_⟩
    unfold NatR
    rw [if_pos (hbad.elim .inl fun h => .inr (.inl h)), if_pos (hbad.elim .inl fun h => .inr (.inl h))]
    exact ⟨_, _, rfl, Ma.Cn.nil, (hw3.nil 22).grows⟩
  · skip
    have hgood : ¬ (8192 < Ma.blen (nv la) ∨ 8192 < Ma.blen (nv lb)) := hc0
    have hbs : Ma.blen (nv la + nv lb) ≤ (16384 : Nat) := by
      have := blen_add hUa.nv_nonneg hUb.nv_nonneg (m := 8192) (by omega) (by omega)
      omega
    refine c_skip ?_
    refine e_then ?_
    refine c_keep [0, 1] (.cons rfl (.cons rfl .nil)) ?_
    refine c_seq ?_
    refine c_region ?_
    refine l_move rfl rfl rfl ?_
    refine l_call rfl rfl Try.func16 rfl rfl (.cons rfl .nil) (numR a la hUa (by omega) w3 (hw3.iarg ha)) ?_
    rintro vna w4 ⟨_, lna, rfl, hRa, hG⟩
    have hw4 := hG _ _ _ _ hw3
    try clear hG hw3
    simp only [List.cons_append, List.nil_append] at hw4
    refine l_move rfl rfl rfl ?_
    refine l_call rfl rfl Try.func16 rfl rfl (.cons rfl .nil) (numR b lb hUb (by omega) w4 (hw4.iarg hb)) ?_
    rintro vnb w5 ⟨_, lnb, rfl, hRb, hG⟩
    have hw5 := hG _ _ _ _ hw4
    try clear hG hw4
    simp only [List.cons_append, List.nil_append] at hw5
    refine l_call rfl rfl Try.func47 rfl rfl (.cons rfl (.cons rfl .nil)) (sumR _ _ _ _ _ _ hRa hRb (by have := num_blen hUa hRa hLa; omega) (by have := num_blen hUb hRb hLb; omega) w5 (hw5.io mem1) (hw5.io mem0)) ?_
    rintro vs w6 ⟨_, ls, rfl, hRs, hG⟩
    have hw6 := hG _ _ _ _ hw5
    try clear hG hw5
    simp only [List.cons_append, List.nil_append] at hw6
    refine l_call rfl rfl Try.func74 rfl rfl (.cons rfl .nil) (toldR vs ls _ hRs (by have := sum_len hRs hbs; omega) w6 (hw6.io mem0)) ?_
    rintro _ w7 ⟨vt, lt, rfl, hcn, hG⟩
    have hw7 := hG _ _ _ _ hw6
    try clear hG hw6
    simp only [List.cons_append, List.nil_append] at hw7
    refine l_extract rfl rfl rfl rfl ?_
    refine l_extract rfl rfl rfl rfl ?_
    refine l_assign rfl rfl rfl ?_
    refine l_assign rfl rfl rfl ?_
    refine l_nil ?_
    refine e_then ?_
    refine c_keep [4, 5] (.cons rfl (.cons rfl .nil)) ?_
    refine c_ret ?_
    refine e_done2 Try.results51 rfl rfl ?_
    refine ⟨_, rfl, ?_⟩
    have hw8 := St.del (.tail (.tail (.tail .head))) hw7
    try clear hw7
    have hw9 := St.del (.tail (.tail .head)) hw8
    try clear hw8
    have hw10 := St.del (.tail .head) hw9
    try clear hw9
    unfold NatR
    by_cases hC : 8192 < Ma.blen (nv la + nv lb)
    · rw [if_pos hC] at hcn ⊢
      rw [if_pos (.inr (.inr hC)), if_pos (.inr (.inr hC))]
      exact ⟨_, _, rfl, hcn, hw10.grows⟩
    · rw [if_neg hC] at hcn ⊢
      have hn : ¬ (8192 < Ma.blen (nv la) ∨ 8192 < Ma.blen (nv lb) ∨ 8192 < Ma.blen (nv la + nv lb)) := fun h => h.elim (fun h => hgood (.inl h)) fun h => h.elim (fun h => hgood (.inr h)) hC
      rw [if_neg hn, if_neg hn]
      exact ⟨_, _, rfl, hcn, hw10.grows⟩
theorem mulR2 (a b : Value) (la lb : List Int) (hUa : U la) (hUb : U lb) (hLa : la.length ≤ 65536) (hLb : lb.length ≤ 65536) (w : World) (ha : IV w a (ints .u64 la)) (hb : IV w b (ints .u64 lb)) :
    CallsV P 52 [a, b] w fun r w' => NatR w w' r (if 8192 < Ma.blen (nv la) ∨ 8192 < Ma.blen (nv lb) ∨ 8192 < Ma.blen (nv la * nv lb) then 21 else 0) (if 8192 < Ma.blen (nv la) ∨ 8192 < Ma.blen (nv lb) ∨ 8192 < Ma.blen (nv la * nv lb) then 0 else nv la * nv lb) := by
  refine enterW Try.func52 rfl Try.ntmps52 rfl ?_
  have hw0 := St.start w
  refine c_seq ?_
  refine c_region ?_
  refine l_assign rfl rfl rfl ?_
  refine l_assign rfl rfl rfl ?_
  refine l_nil ?_
  refine e_then ?_
  refine c_keep [0, 1] (.cons rfl (.cons rfl .nil)) ?_
  refine c_seq ?_
  refine c_seq ?_
  refine c_region ?_
  refine l_move rfl rfl rfl ?_
  refine l_call rfl rfl Try.func67 rfl rfl (.cons rfl .nil) (longR a la hUa hLa w (hw0.iarg ha)) ?_
  rintro _ w1 ⟨rfl, hG⟩
  have hw1 := hG _ _ _ _ hw0
  try clear hG hw0
  simp only [List.cons_append, List.nil_append] at hw1
  refine l_move rfl rfl rfl ?_
  apply l_orS hw1 2 [0, 1] rfl rfl (.cons rfl (.cons rfl (.cons rfl .nil))) rfl rfl (fun _ => rfl) rfl rfl rfl
  · intro hg1_3
    refine l_move rfl rfl rfl ?_
    refine l_call rfl rfl Try.func67 rfl rfl (.cons rfl .nil) (longR b lb hUb hLb w1 (hw1.iarg hb)) ?_
    rintro _ w2 ⟨rfl, hG⟩
    have hw2 := hG _ _ _ _ hw1
    try clear hG hw1
    simp only [List.cons_append, List.nil_append] at hw2
    refine l_nil ?_
    exact e_staysS hw2 rfl (.cons rfl (congrArg Value.bool (decide_eq_false hg1_3).symm) (.cons rfl rfl (.cons rfl rfl .nil)))
  intro w3 hw3
  try clear hw1
  refine l_nil ?_
  refine e_then ?_
  refine c_keep [0, 1, 11] (.cons rfl (.cons rfl (.cons rfl .nil))) ?_
  first | refine c_cond rfl (fun hc0 => ?_) (fun hc0 => ?_) | refine c_condb rfl (fun hc0 => ?_) (fun hc0 => ?_)
  · skip
    have hbad : 8192 < Ma.blen (nv la) ∨ 8192 < Ma.blen (nv lb) := hc0
    refine c_seq ?_
    refine c_region ?_
    refine l_assign rfl rfl rfl ?_
    refine l_assign rfl rfl rfl ?_
    refine l_nil ?_
    refine e_then ?_
    refine c_keep [4, 5] (.cons rfl (.cons rfl .nil)) ?_
    refine c_ret ?_
    refine e_then_ret ?_
    refine e_done2 Try.results52 rfl rfl ?_
    refine ⟨_, rfl, ?_⟩
    unfold NatR
    rw [if_pos (hbad.elim .inl fun h => .inr (.inl h)), if_pos (hbad.elim .inl fun h => .inr (.inl h))]
    exact ⟨_, _, rfl, Ma.Cn.nil, (hw3.nil 22).grows⟩
  · skip
    have hgood : ¬ (8192 < Ma.blen (nv la) ∨ 8192 < Ma.blen (nv lb)) := hc0
    have hbs : Ma.blen (nv la * nv lb) ≤ (16384 : Nat) := by
      have := blen_mul hUa.nv_nonneg hUb.nv_nonneg (m := 8192) (n := 8192) (by omega) (by omega)
      omega
    refine c_skip ?_
    refine e_then ?_
    refine c_keep [0, 1] (.cons rfl (.cons rfl .nil)) ?_
    refine c_seq ?_
    refine c_region ?_
    refine l_move rfl rfl rfl ?_
    refine l_call rfl rfl Try.func16 rfl rfl (.cons rfl .nil) (numR a la hUa (by omega) w3 (hw3.iarg ha)) ?_
    rintro vna w4 ⟨_, lna, rfl, hRa, hG⟩
    have hw4 := hG _ _ _ _ hw3
    try clear hG hw3
    simp only [List.cons_append, List.nil_append] at hw4
    refine l_move rfl rfl rfl ?_
    refine l_call rfl rfl Try.func16 rfl rfl (.cons rfl .nil) (numR b lb hUb (by omega) w4 (hw4.iarg hb)) ?_
    rintro vnb w5 ⟨_, lnb, rfl, hRb, hG⟩
    have hw5 := hG _ _ _ _ hw4
    try clear hG hw4
    simp only [List.cons_append, List.nil_append] at hw5
    refine l_call rfl rfl Try.func40 rfl rfl (.cons rfl (.cons rfl .nil)) (prodR _ _ _ _ _ _ hRa hRb (by have := num_blen hUa hRa hLa; omega) (by have := num_blen hUb hRb hLb; omega) w5 (hw5.io mem1) (hw5.io mem0)) ?_
    rintro vs w6 ⟨_, ls, rfl, hRs, hG⟩
    have hw6 := hG _ _ _ _ hw5
    try clear hG hw5
    simp only [List.cons_append, List.nil_append] at hw6
    refine l_call rfl rfl Try.func74 rfl rfl (.cons rfl .nil) (toldR vs ls _ hRs (by have := sum_len hRs hbs; omega) w6 (hw6.io mem0)) ?_
    rintro _ w7 ⟨vt, lt, rfl, hcn, hG⟩
    have hw7 := hG _ _ _ _ hw6
    try clear hG hw6
    simp only [List.cons_append, List.nil_append] at hw7
    refine l_extract rfl rfl rfl rfl ?_
    refine l_extract rfl rfl rfl rfl ?_
    refine l_assign rfl rfl rfl ?_
    refine l_assign rfl rfl rfl ?_
    refine l_nil ?_
    refine e_then ?_
    refine c_keep [4, 5] (.cons rfl (.cons rfl .nil)) ?_
    refine c_ret ?_
    refine e_done2 Try.results52 rfl rfl ?_
    refine ⟨_, rfl, ?_⟩
    have hw8 := St.del (.tail (.tail (.tail .head))) hw7
    try clear hw7
    have hw9 := St.del (.tail (.tail .head)) hw8
    try clear hw8
    have hw10 := St.del (.tail .head) hw9
    try clear hw9
    unfold NatR
    by_cases hC : 8192 < Ma.blen (nv la * nv lb)
    · rw [if_pos hC] at hcn ⊢
      rw [if_pos (.inr (.inr hC)), if_pos (.inr (.inr hC))]
      exact ⟨_, _, rfl, hcn, hw10.grows⟩
    · rw [if_neg hC] at hcn ⊢
      have hn : ¬ (8192 < Ma.blen (nv la) ∨ 8192 < Ma.blen (nv lb) ∨ 8192 < Ma.blen (nv la * nv lb)) := fun h => h.elim (fun h => hgood (.inl h)) fun h => h.elim (fun h => hgood (.inr h)) hC
      rw [if_neg hn, if_neg hn]
      exact ⟨_, _, rfl, hcn, hw10.grows⟩

/-- a difference, if there is one -/
def SubR (w w' : World) (r : Value) (a b : Int) : Prop := ∃ v ls, r = .tuple #[v, .bool (decide (b ≤ a))] ∧ Ma.Cn 18446744073709551616 ls (if b ≤ a then a - b else 0) ∧ Grow w w' [As.ri 22 .u64 v ls]
theorem cmpI_neg {a b : Int} : cmpI a b < 0 ↔ a < b := by
  unfold cmpI
  split
  · omega
  · split <;> omega
theorem blen_shl {x : Int} (hx : 0 < x) (k : Nat) : Ma.blen (x * 2 ^ k) = Ma.blen x + k := by
  have := Ma.blen_shift (a := x) (r := 0) (k := k) hx (by omega) (Ma.pow_pos (by omega) k)
  rw [Int.zero_add, Int.mul_comm] at this
  omega

theorem subR2 (a b : Value) (la lb : List Int) (hUa : U la) (hUb : U lb) (hLa : la.length ≤ 65536) (hLb : lb.length ≤ 65536) (w : World) (ha : IV w a (ints .u64 la)) (hb : IV w b (ints .u64 lb)) :
    CallsV P 53 [a, b] w fun r w' => SubR w w' r (nv la) (nv lb) := by
  refine enterW Try.func53 rfl Try.ntmps53 rfl ?_
  have hw0 := St.start w
  refine c_seq ?_
  refine c_region ?_
  refine l_assign rfl rfl rfl ?_
  refine l_assign rfl rfl rfl ?_
  refine l_nil ?_
  refine e_then ?_
  refine c_keep [0, 1] (.cons rfl (.cons rfl .nil)) ?_
  refine c_seq ?_
  refine c_region ?_
  refine l_move rfl rfl rfl ?_
  refine l_call rfl rfl Try.func16 rfl rfl (.cons rfl .nil) (numR a la hUa (by omega) w (hw0.iarg ha)) ?_
  rintro vna w1 ⟨_, lna, rfl, hRa, hG⟩
  have hw1 := hG _ _ _ _ hw0
  try clear hG hw0
  simp only [List.cons_append, List.nil_append] at hw1
  refine l_move rfl rfl rfl ?_
  refine l_call rfl rfl Try.func16 rfl rfl (.cons rfl .nil) (numR b lb hUb (by omega) w1 (hw1.iarg hb)) ?_
  rintro vnb w2 ⟨_, lnb, rfl, hRb, hG⟩
  have hw2 := hG _ _ _ _ hw1
  try clear hG hw1
  simp only [List.cons_append, List.nil_append] at hw2
  refine l_assign rfl rfl rfl ?_
  refine l_assign rfl rfl rfl ?_
  refine l_nil ?_
  refine e_then ?_
  refine c_keep [6, 7] (.cons rfl (.cons rfl .nil)) ?_
  refine c_seq ?_
  refine c_seq ?_
  refine c_region ?_
  refine l_move rfl rfl rfl ?_
  refine l_move rfl rfl rfl ?_
  refine l_call rfl rfl Try.func75 rfl rfl (.cons rfl (.cons rfl .nil)) (cmpR _ _ _ _ _ _ hRa hRb (by have := num_blen hUa hRa hLa; omega) (by have := num_blen hUb hRb hLb; omega) w2 (hw2.io mem1) (hw2.io mem0)) ?_
  rintro _ w3 ⟨rfl, hG⟩
  have hw3 := hG _ _ _ _ hw2
  try clear hG hw2
  simp only [List.cons_append, List.nil_append] at hw3
  refine l_lss rfl rfl rfl rfl ?_
  refine l_nil ?_
  refine e_then ?_
  refine c_keep [6, 7, 15] (.cons rfl (.cons rfl (.cons rfl .nil))) ?_
  first | refine c_cond rfl (fun hc0 => ?_) (fun hc0 => ?_) | refine c_condb rfl (fun hc0 => ?_) (fun hc0 => ?_)
  · skip
    refine c_seq ?_
    refine c_region ?_
    refine l_assign rfl rfl rfl ?_
    refine l_assign rfl rfl rfl ?_
    refine l_nil ?_
    refine e_then ?_
    refine c_keep [4, 5] (.cons rfl (.cons rfl .nil)) ?_
    refine c_ret ?_
    refine e_then_ret ?_
    refine e_done2 Try.results53 rfl rfl ?_
    refine ⟨_, rfl, ?_⟩
    have hw4 := St.del (.tail .head) hw3
    try clear hw3
    have hw5 := St.del .head hw4
    try clear hw4
    have hlt : nv la < nv lb := cmpI_neg.1 hc0
    exact ⟨_, [], by rw [decide_eq_false (by omega)], by rw [if_neg (by omega)]; exact Ma.Cn.nil, (hw5.nil 22).grows⟩
  · skip
    refine c_skip ?_
    refine e_then ?_
    refine c_keep [6, 7] (.cons rfl (.cons rfl .nil)) ?_
    refine c_seq ?_
    refine c_region ?_
    have hge : nv lb ≤ nv la := by
      rcases Int.lt_or_le (nv la) (nv lb) with h | h
      · exact absurd (cmpI_neg.2 h) hc0
      · exact h
    refine l_move rfl rfl rfl ?_
    refine l_move rfl rfl rfl ?_
    refine l_call rfl rfl Try.func76 rfl rfl (.cons rfl (.cons rfl .nil)) (lessR _ _ _ _ _ _ hRa hRb (by have := num_blen hUa hRa hLa; omega) (by have := num_blen hUb hRb hLb; omega) hge w3 (hw3.io mem1) (hw3.io mem0)) ?_
    rintro vs w6 ⟨_, ls, rfl, hRs, hG⟩
    have hw6 := hG _ _ _ _ hw3
    try clear hG hw3
    simp only [List.cons_append, List.nil_append] at hw6
    refine l_call rfl rfl Try.func15 rfl rfl (.cons rfl .nil) (wordsR vs ls _ hRs (by have := R16.len_mono hRs hRa (Int.sub_le_self _ hUb.nv_nonneg); have := num_blen hUa hRa hLa; omega) w6 (hw6.io mem0)) ?_
    rintro vw w7 ⟨_, lw, rfl, hcn, hG⟩
    have hw7 := hG _ _ _ _ hw6
    try clear hG hw6
    simp only [List.cons_append, List.nil_append] at hw7
    refine l_assign rfl rfl rfl ?_
    refine l_assign rfl rfl rfl ?_
    refine l_nil ?_
    refine e_then ?_
    refine c_keep [4, 5] (.cons rfl (.cons rfl .nil)) ?_
    refine c_ret ?_
    refine e_done2 Try.results53 rfl rfl ?_
    refine ⟨_, rfl, ?_⟩
    have hw8 := St.del (.tail (.tail (.tail .head))) hw7
    try clear hw7
    have hw9 := St.del (.tail (.tail .head)) hw8
    try clear hw8
    have hw10 := St.del (.tail .head) hw9
    try clear hw9
    exact ⟨_, _, by rw [decide_eq_true hge], by rw [if_pos hge]; exact hcn, hw10.grows⟩
theorem shlR2 (v : Value) (l : List Int) (hU : U l) (hL : l.length ≤ 65536) (n : Int) (w : World) (hv : IV w v (ints .u64 l)) :
    CallsV P 54 [v, .int .i64 n] w fun r w' => NatR w w' r (shlS (nv l) n).1 (shlS (nv l) n).2 := by
  refine enterW Try.func54 rfl Try.ntmps54 rfl ?_
  have hw0 := St.start w
  have hb0 := Ma.blen_nonneg (nv l)
  have hx0 := hU.nv_nonneg
  refine c_seq ?_
  refine c_region ?_
  refine l_assign rfl rfl rfl ?_
  refine l_assign rfl rfl rfl ?_
  refine l_nil ?_
  refine e_then ?_
  refine c_keep [0, 1] (.cons rfl (.cons rfl .nil)) ?_
  refine c_seq ?_
  refine c_seq ?_
  refine c_region ?_
  refine l_move rfl rfl rfl ?_
  refine l_call rfl rfl Try.func67 rfl rfl (.cons rfl .nil) (longR v l hU hL w (hw0.iarg hv)) ?_
  rintro _ w1 ⟨rfl, hG⟩
  have hw1 := hG _ _ _ _ hw0
  try clear hG hw0
  simp only [List.cons_append, List.nil_append] at hw1
  refine l_nil ?_
  refine e_then ?_
  refine c_keep [0, 1, 8] (.cons rfl (.cons rfl (.cons rfl .nil))) ?_
  first | refine c_cond rfl (fun hc0 => ?_) (fun hc0 => ?_) | refine c_condb rfl (fun hc0 => ?_) (fun hc0 => ?_)
  · skip
    refine c_seq ?_
    refine c_region ?_
    refine l_assign rfl rfl rfl ?_
    refine l_assign rfl rfl rfl ?_
    refine l_nil ?_
    refine e_then ?_
    refine c_keep [4, 5] (.cons rfl (.cons rfl .nil)) ?_
    refine c_ret ?_
    refine e_then_ret ?_
    refine e_done2 Try.results54 rfl rfl ?_
    refine ⟨_, rfl, ?_⟩
    have e : shlS (nv l) n = (21, 0) := if_pos hc0
    rw [e]
    exact ⟨_, _, rfl, Ma.Cn.nil, (hw1.nil 22).grows⟩
  · skip
    refine c_skip ?_
    refine e_then ?_
    refine c_keep [0, 1] (.cons rfl (.cons rfl .nil)) ?_
    refine c_seq ?_
    refine c_seq ?_
    refine c_region ?_
    refine l_move rfl rfl rfl ?_
    refine l_lss rfl rfl rfl rfl ?_
    refine l_nil ?_
    refine e_then ?_
    refine c_keep [0, 1, 10] (.cons rfl (.cons rfl (.cons rfl .nil))) ?_
    first | refine c_cond rfl (fun hc1 => ?_) (fun hc1 => ?_) | refine c_condb rfl (fun hc1 => ?_) (fun hc1 => ?_)
    · skip
      refine c_seq ?_
      refine c_region ?_
      refine l_assign rfl rfl rfl ?_
      refine l_assign rfl rfl rfl ?_
      refine l_nil ?_
      refine e_then ?_
      refine c_keep [4, 5] (.cons rfl (.cons rfl .nil)) ?_
      refine c_ret ?_
      refine e_then_ret ?_
      refine e_done2 Try.results54 rfl rfl ?_
      refine ⟨_, rfl, ?_⟩
      have e : shlS (nv l) n = (23, 0) := by unfold shlS; rw [if_neg hc0, if_pos hc1]
      rw [e]
      exact ⟨_, _, rfl, Ma.Cn.nil, (hw1.nil 22).grows⟩
    · skip
      refine c_skip ?_
      refine e_then ?_
      refine c_keep [0, 1] (.cons rfl (.cons rfl .nil)) ?_
      refine c_seq ?_
      refine c_region ?_
      refine l_move rfl rfl rfl ?_
      refine l_call rfl rfl Try.func16 rfl rfl (.cons rfl .nil) (numR v l hU (by omega) w1 (hw1.iarg hv)) ?_
      rintro vn w2 ⟨_, ln, rfl, hRn, hG⟩
      have hw2 := hG _ _ _ _ hw1
      try clear hG hw1
      simp only [List.cons_append, List.nil_append] at hw2
      refine l_assign rfl rfl rfl ?_
      refine l_nil ?_
      refine e_then ?_
      refine c_keep [1, 6] (.cons rfl (.cons rfl .nil)) ?_
      refine c_seq ?_
      refine c_seq ?_
      refine c_region ?_
      refine l_move rfl rfl rfl ?_
      refine v_leni rfl rfl Try.underlying35 rfl (by first | exact hw2.io mem0 | exact hw2.iarg hv | assumption) ?_
      refine l_eql rfl rfl rfl rfl ?_
      refine l_nil ?_
      refine e_then ?_
      refine c_keep [1, 6, 15] (.cons rfl (.cons rfl (.cons rfl .nil))) ?_
      first | refine c_cond rfl (fun hc2 => ?_) (fun hc2 => ?_) | refine c_condb rfl (fun hc2 => ?_) (fun hc2 => ?_)
      · skip
        refine c_seq ?_
        refine c_region ?_
        refine l_assign rfl rfl rfl ?_
        refine l_assign rfl rfl rfl ?_
        refine l_nil ?_
        refine e_then ?_
        refine c_keep [4, 5] (.cons rfl (.cons rfl .nil)) ?_
        refine c_ret ?_
        refine e_then_ret ?_
        refine e_done2 Try.results54 rfl rfl ?_
        refine ⟨_, rfl, ?_⟩
        have hw3 := St.del .head hw2
        try clear hw2
        have hz : nv l = 0 := (hRn.nil_iff (by omega)).1 (List.eq_nil_of_length_eq_zero (by omega))
        have e : shlS (nv l) n = (0, 0) := by unfold shlS; rw [if_neg hc0, if_neg hc1, if_pos hz]
        rw [e]
        exact ⟨_, _, rfl, Ma.Cn.nil, (hw3.nil 22).grows⟩
      · skip
        refine c_skip ?_
        refine e_then ?_
        refine c_keep [1, 6] (.cons rfl (.cons rfl .nil)) ?_
        refine c_seq ?_
        refine c_seq ?_
        refine c_region ?_
        have hpos : 0 < nv l := by
          rcases Int.lt_or_eq_of_le hx0 with h | h
          · exact h
          · have := (hRn.nil_iff (by omega)).2 h.symm
            subst this
            simp at hc2
        refine l_move rfl rfl rfl ?_
        refine l_gtr rfl rfl rfl rfl ?_
        refine l_nil ?_
        refine e_then ?_
        refine c_keep [1, 6, 17] (.cons rfl (.cons rfl (.cons rfl .nil))) ?_
        first | refine c_cond rfl (fun hc3 => ?_) (fun hc3 => ?_) | refine c_condb rfl (fun hc3 => ?_) (fun hc3 => ?_)
        · skip
          refine c_seq ?_
          refine c_region ?_
          refine l_assign rfl rfl rfl ?_
          refine l_assign rfl rfl rfl ?_
          refine l_nil ?_
          refine e_then ?_
          refine c_keep [4, 5] (.cons rfl (.cons rfl .nil)) ?_
          refine c_ret ?_
          refine e_then_ret ?_
          refine e_done2 Try.results54 rfl rfl ?_
          refine ⟨_, rfl, ?_⟩
          have hw4 := St.del .head hw2
          try clear hw2
          have hb1 := Ma.blen_pos hpos
          have e : shlS (nv l) n = (21, 0) := by unfold shlS; rw [if_neg hc0, if_neg hc1, if_neg (by omega), if_pos (by omega)]
          rw [e]
          exact ⟨_, _, rfl, Ma.Cn.nil, (hw4.nil 22).grows⟩
        · skip
          refine c_skip ?_
          refine e_then ?_
          refine c_keep [1, 6] (.cons rfl (.cons rfl .nil)) ?_
          refine c_seq ?_
          refine c_region ?_
          refine l_move rfl rfl rfl ?_
          refine l_move rfl rfl rfl ?_
          have hbe := blen_shl hpos n.toNat
          have hbs : Ma.blen (nv l * 2 ^ n.toNat) ≤ (16384 : Nat) := by omega
          refine l_turn (s := 19) (v' := .int .i64 ((n.toNat : Nat) : Int)) rfl (by rw [Int.toNat_of_nonneg (by omega)]) ?_
          refine l_call rfl rfl Try.func77 rfl rfl (.cons rfl (.cons rfl .nil)) (leftR vn ln _ hRn (by have := num_blen hU hRn hL; omega) n.toNat (by omega) w2 (hw2.io mem0)) ?_
          rintro vs w5 ⟨_, ls, rfl, hRs, hG⟩
          have hw5 := hG _ _ _ _ hw2
          try clear hG hw2
          simp only [List.cons_append, List.nil_append] at hw5
          refine l_call rfl rfl Try.func74 rfl rfl (.cons rfl .nil) (toldR vs ls _ hRs (by have := sum_len hRs hbs; omega) w5 (hw5.io mem0)) ?_
          rintro _ w6 ⟨vt, lt, rfl, hcn, hG⟩
          have hw6 := hG _ _ _ _ hw5
          try clear hG hw5
          simp only [List.cons_append, List.nil_append] at hw6
          refine l_extract rfl rfl rfl rfl ?_
          refine l_extract rfl rfl rfl rfl ?_
          refine l_assign rfl rfl rfl ?_
          refine l_assign rfl rfl rfl ?_
          refine l_nil ?_
          refine e_then ?_
          refine c_keep [4, 5] (.cons rfl (.cons rfl .nil)) ?_
          refine c_ret ?_
          refine e_done2 Try.results54 rfl rfl ?_
          refine ⟨_, rfl, ?_⟩
          have hw7 := St.del (.tail (.tail .head)) hw6
          try clear hw6
          have hw8 := St.del (.tail .head) hw7
          try clear hw7
          by_cases hC : 8192 < Ma.blen (nv l * 2 ^ n.toNat)
          · have e : shlS (nv l) n = (21, 0) := by unfold shlS; rw [if_neg hc0, if_neg hc1, if_neg (by omega), if_pos (by omega)]
            rw [if_pos hC] at hcn ⊢
            rw [e]
            exact ⟨_, _, rfl, hcn, hw8.grows⟩
          · have e : shlS (nv l) n = (0, nv l * 2 ^ n.toNat) := by unfold shlS; rw [if_neg hc0, if_neg hc1, if_neg (by omega), if_neg (by omega)]
            rw [if_neg hC] at hcn ⊢
            rw [e]
            exact ⟨_, _, rfl, hcn, hw8.grows⟩
theorem shrR2 (v : Value) (l : List Int) (hU : U l) (hL : l.length ≤ 65536) (n : Int) (hn : n ≤ 9223372036854775807) (w : World) (hv : IV w v (ints .u64 l)) :
    CallsV P 55 [v, .int .i64 n] w fun r w' => LostR w w' r (shrS (nv l) n).1 (shrS (nv l) n).2.1 (shrS (nv l) n).2.2 := by
  refine enterW Try.func55 rfl Try.ntmps55 rfl ?_
  have hw0 := St.start w
  refine c_seq ?_
  refine c_region ?_
  refine l_assign rfl rfl rfl ?_
  refine l_assign rfl rfl rfl ?_
  refine l_assign rfl rfl rfl ?_
  refine l_nil ?_
  refine e_then ?_
  refine c_keep [0, 1] (.cons rfl (.cons rfl .nil)) ?_
  refine c_seq ?_
  refine c_seq ?_
  refine c_region ?_
  refine l_move rfl rfl rfl ?_
  refine l_call rfl rfl Try.func67 rfl rfl (.cons rfl .nil) (longR v l hU hL w (hw0.iarg hv)) ?_
  rintro _ w1 ⟨rfl, hG⟩
  have hw1 := hG _ _ _ _ hw0
  try clear hG hw0
  simp only [List.cons_append, List.nil_append] at hw1
  refine l_nil ?_
  refine e_then ?_
  refine c_keep [0, 1, 10] (.cons rfl (.cons rfl (.cons rfl .nil))) ?_
  first | refine c_cond rfl (fun hc0 => ?_) (fun hc0 => ?_) | refine c_condb rfl (fun hc0 => ?_) (fun hc0 => ?_)
  · skip
    refine c_seq ?_
    refine c_region ?_
    refine l_assign rfl rfl rfl ?_
    refine l_assign rfl rfl rfl ?_
    refine l_assign rfl rfl rfl ?_
    refine l_nil ?_
    refine e_then ?_
    refine c_keep [4, 5, 6] (.cons rfl (.cons rfl (.cons rfl .nil))) ?_
    refine c_ret ?_
    refine e_then_ret ?_
    refine e_doneN Try.results55 (.tmp rfl (.tmp rfl (.tmp rfl .nil))) rfl ?_
    refine ⟨_, rfl, ?_⟩
    have e : shrS (nv l) n = (21, 0, false) := if_pos hc0
    rw [e]
    exact ⟨_, _, rfl, Ma.Cn.nil, (hw1.nil 22).grows⟩
  · skip
    refine c_skip ?_
    refine e_then ?_
    refine c_keep [0, 1] (.cons rfl (.cons rfl .nil)) ?_
    refine c_seq ?_
    refine c_seq ?_
    refine c_region ?_
    refine l_move rfl rfl rfl ?_
    refine l_lss rfl rfl rfl rfl ?_
    refine l_nil ?_
    refine e_then ?_
    refine c_keep [0, 1, 12] (.cons rfl (.cons rfl (.cons rfl .nil))) ?_
    first | refine c_cond rfl (fun hc1 => ?_) (fun hc1 => ?_) | refine c_condb rfl (fun hc1 => ?_) (fun hc1 => ?_)
    · skip
      refine c_seq ?_
      refine c_region ?_
      refine l_assign rfl rfl rfl ?_
      refine l_assign rfl rfl rfl ?_
      refine l_assign rfl rfl rfl ?_
      refine l_nil ?_
      refine e_then ?_
      refine c_keep [4, 5, 6] (.cons rfl (.cons rfl (.cons rfl .nil))) ?_
      refine c_ret ?_
      refine e_then_ret ?_
      refine e_doneN Try.results55 (.tmp rfl (.tmp rfl (.tmp rfl .nil))) rfl ?_
      refine ⟨_, rfl, ?_⟩
      have e : shrS (nv l) n = (23, 0, false) := by unfold shrS; rw [if_neg hc0, if_pos hc1]
      rw [e]
      exact ⟨_, _, rfl, Ma.Cn.nil, (hw1.nil 22).grows⟩
    · skip
      refine c_skip ?_
      refine e_then ?_
      refine c_keep [0, 1] (.cons rfl (.cons rfl .nil)) ?_
      refine c_seq ?_
      refine c_region ?_
      refine l_move rfl rfl rfl ?_
      refine l_call rfl rfl Try.func16 rfl rfl (.cons rfl .nil) (numR v l hU (by omega) w1 (hw1.iarg hv)) ?_
      rintro vn w2 ⟨_, ln, rfl, hRn, hG⟩
      have hw2 := hG _ _ _ _ hw1
      try clear hG hw1
      simp only [List.cons_append, List.nil_append] at hw2
      refine l_move rfl rfl rfl ?_
      refine l_turn (s := 16) (v' := .int .i64 ((n.toNat : Nat) : Int)) rfl (by rw [Int.toNat_of_nonneg (by omega)]) ?_
      refine l_call rfl rfl Try.func78 rfl rfl (.cons rfl (.cons rfl .nil)) (rightR vn ln _ hRn (by have := num_blen hU hRn hL; omega) n.toNat (by omega) w2 (hw2.io mem0)) ?_
      rintro _ w3 ⟨vs, ls, rfl, hRs, hG⟩
      have hw3 := hG _ _ _ _ hw2
      try clear hG hw2
      simp only [List.cons_append, List.nil_append] at hw3
      refine l_move rfl rfl rfl ?_
      refine l_extract rfl rfl rfl rfl ?_
      refine l_extract rfl rfl rfl rfl ?_
      refine l_assign rfl rfl rfl ?_
      refine l_assign rfl rfl rfl ?_
      refine l_nil ?_
      refine e_then ?_
      refine c_keep [7, 8] (.cons rfl (.cons rfl .nil)) ?_
      refine c_seq ?_
      refine c_region ?_
      refine l_move rfl rfl rfl ?_
      refine l_call rfl rfl Try.func15 rfl rfl (.cons rfl .nil) (wordsR vs ls _ hRs (by have := R16.len_mono hRs hRn (Int.ediv_le_self _ hU.nv_nonneg); have := num_blen hU hRn hL; omega) w3 (hw3.io mem0)) ?_
      rintro vw w4 ⟨_, lw, rfl, hcn, hG⟩
      have hw4 := hG _ _ _ _ hw3
      try clear hG hw3
      simp only [List.cons_append, List.nil_append] at hw4
      refine l_move rfl rfl rfl ?_
      refine l_assign rfl rfl rfl ?_
      refine l_assign rfl rfl rfl ?_
      refine l_assign rfl rfl rfl ?_
      refine l_nil ?_
      refine e_then ?_
      refine c_keep [4, 5, 6] (.cons rfl (.cons rfl (.cons rfl .nil))) ?_
      refine c_ret ?_
      refine e_doneN Try.results55 (.tmp rfl (.tmp rfl (.tmp rfl .nil))) rfl ?_
      refine ⟨_, rfl, ?_⟩
      have hw5 := St.del (.tail (.tail .head)) hw4
      try clear hw4
      have hw6 := St.del (.tail .head) hw5
      try clear hw5
      have e : shrS (nv l) n = (0, nv l / 2 ^ n.toNat, decide (¬ nv l % 2 ^ n.toNat = 0)) := by unfold shrS; rw [if_neg hc0, if_neg hc1]
      rw [e]
      exact ⟨_, _, rfl, hcn, hw6.grows⟩
end Go.Proofs.Ytnddfmjmeghkjaa.W
