/- walks of scan.Exact, the document's Exact -/
import Derived.Test.YtjkaahnadaapoaaSi
import Derived.Test.YtjkaahnadaapoaaLa
set_option linter.unusedVariables false
set_option linter.unusedSimpArgs false
set_option maxRecDepth 10000
namespace Go.Proofs.Ytjkaahnadaapoaa.W
open Go.Vc Go.RowKit

/-- a text's number, whole: the number of its digits, the exponent, the error -/
inductive ExR (t : L8) : Int → Int → Int → Prop
  | err {ng : Bool} {wd x p e : Int} {W F : L8} (hr : ReadR t ng wd W F x p e) (he : ¬ e = 0) : ExR t 0 0 e
  | nil {ng : Bool} {wd x p : Int} {W F : L8} (hr : ReadR t ng wd W F x p 0) (hn : ¬ wd = 0 ∨ skip0 (W ++ F) = []) : ExR t 0 0 0
  | num {ng : Bool} {x p : Int} {W F : L8} (hr : ReadR t ng 0 W F x p 0) (hne : ¬ skip0 (W ++ F) = []) : ExR t (pv (skip0 (W ++ F))) (x - F.length) 0
theorem ExR.unique {t : L8} {n x e n' x' e' : Int} (h : ExR t n x e) (k : ExR t n' x' e') : n = n' ∧ x = x' ∧ e = e' := by
  cases h with
  | err hr he =>
    cases k with
    | err hr2 _ => obtain ⟨_, _, _, _, _, _, rfl⟩ := hr.unique hr2; exact ⟨rfl, rfl, rfl⟩
    | nil hr2 _ => obtain ⟨_, _, _, _, _, _, h⟩ := hr.unique hr2; exact absurd h he
    | num hr2 _ => obtain ⟨_, _, _, _, _, _, h⟩ := hr.unique hr2; exact absurd h he
  | nil hr hn =>
    cases k with
    | err hr2 he => obtain ⟨_, _, _, _, _, _, h⟩ := hr2.unique hr; exact absurd h he
    | nil _ _ => exact ⟨rfl, rfl, rfl⟩
    | num hr2 hne =>
      obtain ⟨rfl, rfl, rfl, rfl, _⟩ := hr.unique hr2
      rcases hn with h | h
      · exact absurd rfl h
      · exact absurd h hne
  | num hr hne =>
    cases k with
    | err hr2 he => obtain ⟨_, _, _, _, _, _, h⟩ := hr2.unique hr; exact absurd h he
    | nil hr2 h2 =>
      obtain ⟨rfl, rfl, rfl, rfl, _⟩ := hr.unique hr2
      rcases h2 with h | h
      · exact absurd rfl h
      · exact absurd h hne
    | num hr2 _ => obtain ⟨rfl, _, rfl, rfl, rfl, _⟩ := hr.unique hr2; exact ⟨rfl, rfl, rfl⟩
theorem ExR.ebd {t : L8} {n x e : Int} (h : ExR t n x e) : -9223372036854775808 ≤ e ∧ e ≤ 9223372036854775807 := by
  cases h with
  | err hr _ => cases hr <;> omega
  | nil _ _ => omega
  | num _ _ => omega
theorem blen_pv : ∀ (n : Nat) (l : L8), l.length = n → (∀ x ∈ l, isD x) → Ma.blen (pv l) ≤ (4 * n : Nat)
  | 0, l, h, _ => by
    obtain rfl := List.eq_nil_of_length_eq_zero h
    decide
  | n + 1, l, h, hd => by
    have hne : l ≠ [] := by intro e; subst e; simp at h
    have e := List.dropLast_concat_getLast hne
    have hd' : ∀ x ∈ l.dropLast, isD x := fun x hx => hd x ((List.dropLast_sublist l).subset hx)
    have ih := blen_pv n l.dropLast (by simp [h]) hd'
    have hb := (pv_bounds n l.dropLast (by simp [h]) hd').1
    have hl := (hd _ (List.getLast_mem hne)).le
    have := blen_ten hb (d := ((l.getLast hne).toNat : Int) - 48) (by omega)
    rw [← e, pv_snoc, Int.mul_comm]
    omega
theorem ReadR.short {t : L8} {ng : Bool} {wd x p e : Int} {W F : L8} (h : ReadR t ng wd W F x p e) : W.length ≤ 1024 ∧ F.length ≤ 1024 := by
  cases h with
  | long _ => simp
  | form _ _ => simp
  | ok h hc => have := hc.facts; omega
theorem dig_at {l : L8} (h : ∀ c ∈ l, isD c) : ∀ j, j < l.length → isD (l.getD j 0) := fun j hj => h _ (getD_mem hj)
theorem parsed_digs {l : L8} (hd : ∀ c ∈ l, isD c) (h0 : l ≠ []) (hl : l.length ≤ 2048) : parsed l = (0, pv l) := parsed_ok h0 (dig_at hd) (by have := blen_pv l.length l rfl hd; omega)
theorem trim_same {v : Value} {l : List Int} {n : Int} (hR : R16 l n) (hL : l.length ≤ 17592186044416) {w : World} (hv : IV w v (ints .i64 l)) : CallsV P 37 [v] w fun r w' => r = v ∧ w = w' := by
  obtain ⟨A, c, rfl, hc, hs⟩ := hv
  refine (trimR A c l hR.d hL w ⟨A, c, rfl, hc, hs⟩).mono ?_
  rintro r w' ⟨rfl, rfl⟩
  rw [Ma.Tr.tr_eq hR.tr]
  exact ⟨by simp, rfl⟩

theorem exactS (v : Value) (t : L8) (hL : t.length ≤ 1099511627776) (w : World) (hv : IB w v t) :
    CallsV P 17 [v] w fun r w' => ∃ v ls n x e, r = .tuple #[v, .int .i64 x, .int .i64 e] ∧ Ma.Cn 18446744073709551616 ls n ∧ ExR t n x e ∧ Grow w w' [As.ri 25 .u64 v ls] := by
  refine enterW Try.func17 rfl Try.ntmps17 rfl ?_
  have hw0 := St.start w
  refine c_seq ?_
  refine c_region ?_
  refine l_assign rfl rfl rfl ?_
  refine l_assign rfl rfl rfl ?_
  refine l_assign rfl rfl rfl ?_
  refine l_nil ?_
  refine e_then ?_
  refine c_keep [0] (.cons rfl .nil) ?_
  refine c_seq ?_
  refine c_region ?_
  refine l_move rfl rfl rfl ?_
  refine l_call rfl rfl Try.func26 rfl rfl (.cons rfl .nil) (readS v t hL w w (hw0.iarg hv) hv) ?_
  rintro _ w1 ⟨ng, wd, vw, vf, W, F, x, p, e, rfl, hR, hvw, hvf, hG⟩
  have hw1 := hG _ _ _ _ hw0
  try clear hG hw0
  simp only [List.cons_append, List.nil_append] at hw1
  obtain ⟨hdg, hWl, hFl, hx1, hx2, _, _⟩ := hR.facts
  have hone1 := slice_one hvw
  have hone2 := slice_one hvf
  have hsh := hR.short
  refine l_move rfl rfl rfl ?_
  refine l_extract rfl rfl rfl rfl ?_
  refine l_extract rfl rfl rfl rfl ?_
  refine l_extract rfl rfl rfl rfl ?_
  refine l_alloc hw1 ta62 rfl rfl (fun b1_6 w2 hw2 => ?_)
  try clear hw1
  refine l_store_blks hw2 .head (.zero (.zero (.zero (.zero (.zero .nil))))) rfl tz62 rfl rfl (by first | (simp [Value.oneCell']; done) | (intro u hu; simp only [List.mem_cons, List.not_mem_nil, or_false] at hu; rcases hu with rfl | rfl | rfl | rfl | rfl <;> first | rfl | assumption)) (fun w3 hw3 => ?_)
  try clear hw2
  refine l_assign rfl rfl rfl ?_
  refine l_assign rfl rfl rfl ?_
  refine l_nil ?_
  refine e_then ?_
  refine c_keep [4, 5] (.cons rfl (.cons rfl .nil)) ?_
  refine c_seq ?_
  refine c_region ?_
  refine l_load_agg hw3 mem0 rfl rfl Try.underlying62 rfl tz62 rfl (.take (.take (.take (.take (.take .nil))))) ?_
  refine l_call rfl rfl Try.func27 rfl rfl (.cons rfl .nil) (allS ng wd x vw vf W F (by omega) (by omega) w3 (hw3.iarg hvw) (hw3.iarg hvf)) ?_
  rintro _ w4 ⟨vl, rfl, hG⟩
  have hw4 := hG _ _ _ _ hw3
  try clear hG hw3
  simp only [List.cons_append, List.nil_append] at hw4
  obtain ⟨L, hLe⟩ : ∃ L, L = skip0 (W ++ F) := ⟨_, rfl⟩
  rw [← hLe] at hw4
  have hLl := skip0_le (W ++ F)
  rw [← hLe, List.length_append] at hLl
  have hdL : ∀ c ∈ L, isD c := fun c hc => hdg c (skip0_mem (hLe ▸ hc))
  refine l_assign rfl rfl rfl ?_
  refine l_nil ?_
  refine e_then ?_
  refine c_keep [4, 5, 7] (.cons rfl (.cons rfl (.cons rfl .nil))) ?_
  refine c_seq ?_
  refine c_seq ?_
  refine c_region ?_
  refine l_move rfl rfl rfl ?_
  refine l_neq rfl rfl rfl rfl ?_
  refine l_move rfl rfl rfl ?_
  apply l_or 3 [4, 5, 7] rfl rfl (.cons rfl (.cons rfl (.cons rfl (.cons rfl .nil)))) rfl rfl (fun _ => rfl) rfl rfl rfl
  · intro hg3_3
    refine l_field fo62_1 rfl rfl rfl ?_
    refine l_load_blk hw4 mem1 rfl rfl Try.underlying3 rfl rfl rfl ?_
    refine l_neq rfl rfl rfl rfl ?_
    refine l_nil ?_
    exact e_stays rfl (.cons rfl (congrArg Value.bool (decide_eq_false hg3_3).symm) (.cons rfl rfl (.cons rfl rfl (.cons rfl rfl .nil))))
  refine l_move rfl rfl rfl ?_
  apply l_or 3 [4, 5, 7] rfl rfl (.cons rfl (.cons rfl (.cons rfl (.cons rfl .nil)))) rfl rfl (fun _ => rfl) rfl rfl rfl
  · intro hg3_8
    refine l_move rfl rfl rfl ?_
    refine v_lenb rfl rfl Try.underlying22 rfl (by first | exact hw4.ii mem0 | exact hw4.ibl mem1 | exact hw4.iarg hv | exact hw4.iarg hvw | exact hw4.iarg hvf | assumption) ?_
    refine l_eql rfl rfl rfl rfl ?_
    refine l_nil ?_
    exact e_stays rfl (.cons rfl (congrArg Value.bool (decide_eq_false hg3_8).symm) (.cons rfl rfl (.cons rfl rfl (.cons rfl rfl .nil))))
  refine l_nil ?_
  refine e_then ?_
  refine c_keep [4, 5, 7, 27] (.cons rfl (.cons rfl (.cons rfl (.cons rfl .nil)))) ?_
  first | refine c_cond rfl (fun hc0 => ?_) (fun hc0 => ?_) | refine c_condb rfl (fun hc0 => ?_) (fun hc0 => ?_)
  · skip
    refine c_seq ?_
    refine c_region ?_
    refine l_move rfl rfl rfl ?_
    refine l_assign rfl rfl rfl ?_
    refine l_assign rfl rfl rfl ?_
    refine l_assign rfl rfl rfl ?_
    refine l_nil ?_
    refine e_then ?_
    refine c_keep [2, 3, 4] (.cons rfl (.cons rfl (.cons rfl .nil))) ?_
    refine c_ret ?_
    refine e_then_ret ?_
    refine e_doneN Try.results17 (.tmp rfl (.tmp rfl (.tmp rfl .nil))) rfl ?_
    refine ⟨_, rfl, ?_⟩
    have hw5 := St.del (.tail .head) hw4
    try clear hw4
    have hw6 := St.del .head hw5
    try clear hw5
    rcases Classical.em (e = 0) with he | he
    · subst he
      exact ⟨_, [], 0, 0, 0, rfl, Ma.Cn.nil, .nil hR (by rw [← hLe]; rcases hc0 with (h | h) | h; exact absurd rfl h; exact .inl h; exact .inr (List.eq_nil_of_length_eq_zero (by omega))), (hw6.nil 25).grows⟩
    · exact ⟨_, [], 0, 0, e, rfl, Ma.Cn.nil, .err hR he, (hw6.nil 25).grows⟩
  · skip
    refine c_skip ?_
    refine e_then ?_
    refine c_keep [5, 7] (.cons rfl (.cons rfl .nil)) ?_
    refine c_seq ?_
    refine c_region ?_
    refine l_move rfl rfl rfl ?_
    refine v_tostr (l := L) rfl rfl Try.underlying22 Try.underlying5 Try.underlying9 rfl (by first | exact hw4.ii mem0 | exact hw4.ibl mem1 | exact hw4.iarg hv | exact hw4.iarg hvw | exact hw4.iarg hvf | assumption) ?_
    have he0 : e = 0 := by omega
    have hwd : wd = 0 := by omega
    have hL0 : L ≠ [] := fun h => by rw [h] at hc0; simp at hc0
    subst he0 hwd
    refine l_call rfl rfl Try.func36 rfl rfl (.cons rfl .nil) (parseN L (by omega) w4) ?_
    rintro _ w7 ⟨vn, ls, rfl, hcn, hG⟩
    have hw7 := hG _ _ _ _ hw4
    try clear hG hw4
    simp only [List.cons_append, List.nil_append] at hw7
    rw [parsed_digs hdL hL0 (by omega)] at hcn
    refine l_move rfl rfl rfl ?_
    refine l_extract rfl rfl rfl rfl ?_
    refine l_extract rfl rfl rfl rfl ?_
    refine l_assign rfl rfl rfl ?_
    refine l_nil ?_
    refine e_then ?_
    refine c_keep [2, 5] (.cons rfl (.cons rfl .nil)) ?_
    refine c_seq ?_
    refine c_still (by kernel_rfl) (by kernel_rfl) ?_
    have hw8 := hw7.drewn
    try clear hw7
    refine l_move rfl rfl rfl ?_
    refine l_field fo62_4 rfl rfl rfl ?_
    refine l_load_blk hw8 mem2 rfl rfl Try.underlying3 rfl rfl rfl ?_
    refine l_field fo62_3 rfl rfl rfl ?_
    refine l_load_blk hw8 mem2 rfl rfl Try.underlying22 rfl rfl rfl ?_
    refine v_lenb rfl rfl Try.underlying22 rfl (by first | exact hw8.io mem0 | exact hw8.ii mem1 | exact hw8.ibl mem2 | exact hw8.iarg hv | exact hw8.iarg hvw | exact hw8.iarg hvf | assumption) ?_
    refine l_sub rfl rfl rfl rfl (w_i64 (by omega)) ?_
    refine l_assign rfl rfl rfl ?_
    refine l_assign rfl rfl rfl ?_
    refine l_assign rfl rfl rfl ?_
    refine l_nil ?_
    refine e_then ?_
    refine c_keep [2, 3, 4] (.cons rfl (.cons rfl (.cons rfl .nil))) ?_
    refine c_ret ?_
    refine e_doneN Try.results17 (.tmp rfl (.tmp rfl (.tmp rfl .nil))) rfl ?_
    refine ⟨_, rfl, ?_⟩
    have hw9 := St.del (.tail (.tail .head)) hw8
    try clear hw8
    have hw10 := St.del (.tail .head) hw9
    try clear hw9
    refine ⟨_, ls, _, _, 0, rfl, hcn, ?_, hw10.grows⟩
    rw [hLe]
    exact .num hR (by rw [← hLe]; exact hL0)
theorem exact8 (v : Value) (t : L8) (hL : t.length ≤ 1099511627776) (w : World) (hv : IB w v t) :
    CallsV P 18 [v] w fun r w' => ∃ v ls n x e, r = .tuple #[v, .int .i64 x, .int .i64 e] ∧ R16 ls n ∧ n < 2 ^ 8192 ∧ ExR t n x e ∧ Grow w w' [As.ri 3 .i64 v ls] := by
  refine enterW Try.func18 rfl Try.ntmps18 rfl ?_
  have hw0 := St.start w
  refine c_seq ?_
  refine c_region ?_
  refine l_assign rfl rfl rfl ?_
  refine l_assign rfl rfl rfl ?_
  refine l_assign rfl rfl rfl ?_
  refine l_nil ?_
  refine e_then ?_
  refine c_keep [0] (.cons rfl .nil) ?_
  refine c_seq ?_
  refine c_region ?_
  refine l_move rfl rfl rfl ?_
  refine l_call rfl rfl Try.func29 rfl rfl (.cons rfl .nil) (check8 v t hL w (hw0.iarg hv)) ?_
  rintro _ w1 ⟨ng, wd, W, F, en, E, p, e, rfl, hR, hG⟩
  have hw1 := hG _ _ _ _ hw0
  try clear hG hw0
  simp only [List.cons_append, List.nil_append] at hw1
  refine l_move rfl rfl rfl ?_
  refine l_extract rfl rfl rfl rfl ?_
  refine l_extract rfl rfl rfl rfl ?_
  refine l_extract rfl rfl rfl rfl ?_
  refine l_alloc hw1 ta69 rfl rfl (fun b1_6 w2 hw2 => ?_)
  try clear hw1
  refine l_store_blks hw2 .head (.zero (.zero (.zero (.zero (.zero (.zero .nil)))))) rfl tz69 rfl rfl (by first | (simp [Value.oneCell']; done) | (intro u hu; simp only [List.mem_cons, List.not_mem_nil, or_false] at hu; rcases hu with rfl | rfl | rfl | rfl | rfl | rfl <;> first | rfl | assumption)) (fun w3 hw3 => ?_)
  try clear hw2
  refine l_assign rfl rfl rfl ?_
  refine l_assign rfl rfl rfl ?_
  refine l_nil ?_
  refine e_then ?_
  refine c_keep [5, 7] (.cons rfl (.cons rfl .nil)) ?_
  refine c_seq ?_
  refine c_seq ?_
  refine c_region ?_
  refine l_move rfl rfl rfl ?_
  refine l_neq rfl rfl rfl rfl ?_
  refine l_nil ?_
  refine e_then ?_
  refine c_keep [5, 7, 16] (.cons rfl (.cons rfl (.cons rfl .nil))) ?_
  first | refine c_cond rfl (fun hc0 => ?_) (fun hc0 => ?_) | refine c_condb rfl (fun hc0 => ?_) (fun hc0 => ?_)
  · skip
    refine c_seq ?_
    refine c_region ?_
    refine l_move rfl rfl rfl ?_
    refine l_assign rfl rfl rfl ?_
    refine l_assign rfl rfl rfl ?_
    refine l_assign rfl rfl rfl ?_
    refine l_nil ?_
    refine e_then ?_
    refine c_keep [2, 3, 4] (.cons rfl (.cons rfl (.cons rfl .nil))) ?_
    refine c_ret ?_
    refine e_then_ret ?_
    refine e_doneN Try.results18 (.tmp rfl (.tmp rfl (.tmp rfl .nil))) rfl ?_
    refine ⟨_, rfl, ?_⟩
    have hw4 := St.del .head hw3
    try clear hw3
    have hrr : ReadR t false 0 [] [] 0 p e := by
      cases hR with
      | long h => exact .long h
      | form h => exact h
      | ok _ _ => exact absurd rfl hc0
    exact ⟨_, [], 0, 0, e, rfl, Ma.Cn.nil, Int.pow_pos (by omega), .err hrr hc0, (hw4.nil 3).grows⟩
  · skip
    refine c_skip ?_
    refine e_then ?_
    refine c_keep [5] (.cons rfl .nil) ?_
    refine c_seq ?_
    refine c_region ?_
    have he0 : e = 0 := by omega
    obtain ⟨hp0, hRC⟩ : p = 0 ∧ RC t ng wd W F en E true := by
      cases hR with
      | long _ => cases he0
      | form _ => cases he0
      | ok _ hc => exact ⟨rfl, hc⟩
    have hl1024 : t.length ≤ 1024 := by
      cases hR with
      | long _ => cases he0
      | form _ => cases he0
      | ok h _ => exact h
    obtain ⟨ng', hRd, hng⟩ := hRC.read hl1024
    obtain ⟨hdg, hWl, hFl, hx1, hx2, _, _⟩ := hRd.facts
    have hEd := hRC.digs
    have hEl : E.length ≤ 1099511627776 := by
      have := hRC.elen
      omega
    obtain ⟨L, hLe⟩ : ∃ L, L = skip0 (W ++ F) := ⟨_, rfl⟩
    have hLl := skip0_le (W ++ F)
    rw [← hLe, List.length_append] at hLl
    have hdL : ∀ c ∈ L, isD c := fun c hc => hdg c (skip0_mem (hLe ▸ hc))
    have hbl : Ma.blen (pv L) ≤ (8192 : Nat) := by have := blen_pv L.length L rfl hdL; omega
    have hpn := (pv_bounds L.length L rfl hdL).1
    refine l_load_agg hw3 mem0 rfl rfl Try.underlying69 rfl tz69 rfl (.take (.take (.take (.take (.take (.take .nil)))))) ?_
    refine l_call rfl rfl Try.func30 rfl rfl (.cons rfl .nil) (all8R ng wd W F en E (by omega) (by omega) w3) ?_
    rintro _ w5 ⟨rfl, hG⟩
    have hw5 := hG _ _ _ _ hw3
    try clear hG hw3
    simp only [List.cons_append, List.nil_append] at hw5
    refine l_turn (s := 19) (v' := str L) rfl (by rw [hLe]) ?_
    refine l_assign rfl rfl rfl ?_
    refine l_nil ?_
    refine e_then ?_
    refine c_keep [5, 8] (.cons rfl (.cons rfl .nil)) ?_
    refine c_seq ?_
    refine c_seq ?_
    refine c_region ?_
    refine l_field fo69_1 rfl rfl rfl ?_
    refine l_load_blk hw5 mem0 rfl rfl Try.underlying3 rfl rfl rfl ?_
    refine l_neq rfl rfl rfl rfl ?_
    refine l_move rfl rfl rfl ?_
    apply l_or 2 [5, 8] rfl rfl (.cons rfl (.cons rfl (.cons rfl .nil))) rfl rfl (fun _ => rfl) rfl rfl rfl
    · intro hg5_4
      refine l_move rfl rfl rfl ?_
      refine l_eqls rfl rfl rfl rfl ?_
      refine l_nil ?_
      exact e_stays rfl (.cons rfl (congrArg Value.bool (decide_eq_false hg5_4).symm) (.cons rfl rfl (.cons rfl rfl .nil)))
    refine l_nil ?_
    refine e_then ?_
    refine c_keep [5, 8, 26] (.cons rfl (.cons rfl (.cons rfl .nil))) ?_
    first | refine c_cond rfl (fun hc1 => ?_) (fun hc1 => ?_) | refine c_condb rfl (fun hc1 => ?_) (fun hc1 => ?_)
    · skip
      refine c_seq ?_
      refine c_region ?_
      refine l_assign rfl rfl rfl ?_
      refine l_assign rfl rfl rfl ?_
      refine l_assign rfl rfl rfl ?_
      refine l_nil ?_
      refine e_then ?_
      refine c_keep [2, 3, 4] (.cons rfl (.cons rfl (.cons rfl .nil))) ?_
      refine c_ret ?_
      refine e_then_ret ?_
      refine e_doneN Try.results18 (.tmp rfl (.tmp rfl (.tmp rfl .nil))) rfl ?_
      refine ⟨_, rfl, ?_⟩
      have hw6 := St.del .head hw5
      try clear hw5
      exact ⟨_, [], 0, 0, 0, rfl, Ma.Cn.nil, Int.pow_pos (by omega), .nil hRd (hc1.imp id fun h => by rw [← hLe]; exact h), (hw6.nil 3).grows⟩
    · skip
      refine c_skip ?_
      refine e_then ?_
      refine c_keep [5, 8] (.cons rfl (.cons rfl .nil)) ?_
      refine c_seq ?_
      have hw7 := hw5.drewn
      try clear hw5
      have hwd : wd = 0 := Classical.not_not.1 (fun h => hc1 (.inl h))
      have hL0 : L ≠ [] := fun h => hc1 (.inr h)
      refine c_any (n := 13) [false, false, false, false, false, false, false, false, false, false, false, false, false] (fun wS => (As.blk b1_6 69 [.bool ng, .int .i64 wd, str W, str F, .bool en, str E]).ok wS) (by kernel_rfl) rfl rfl ?_
      apply a_take (L' := [true, false, false, false, false, false, false, false, false, false, false, false, false]) 0 rfl (by kernel_rfl) (by kernel_rfl) (by kernel_rfl) rfl rfl rfl rfl rfl (hw7.ok mem0)
      · intro wS sS
        refine l_move rfl rfl rfl ?_
        refine l_nil ?_
        exact e_got rfl
      apply a_take (L' := [true, false, false, false, true, false, false, false, false, false, false, false, false]) 4 rfl (by kernel_rfl) (by kernel_rfl) (by kernel_rfl) rfl rfl rfl rfl rfl (hw7.ok mem0)
      · intro wS sS
        refine l_load_agg (blk_st sS) mem0 rfl rfl Try.underlying69 rfl tz69 rfl (.take (.take (.take (.take (.take (.take .nil)))))) ?_
        refine l_nil ?_
        exact e_got rfl
      apply a_take (L' := [true, false, false, false, true, false, true, false, false, false, false, false, false]) 6 rfl (by kernel_rfl) (by kernel_rfl) (by kernel_rfl) rfl rfl rfl rfl rfl (hw7.ok mem0)
      · intro wS sS
        refine l_field fo69_3 rfl rfl rfl ?_
        refine l_nil ?_
        exact e_got rfl
      apply a_take (L' := [true, false, false, false, true, false, true, true, false, false, false, false, false]) 7 rfl (by kernel_rfl) (by kernel_rfl) (by kernel_rfl) rfl rfl rfl rfl rfl (hw7.ok mem0)
      · intro wS sS
        refine l_load_blk (blk_st sS) mem0 rfl rfl Try.underlying9 rfl rfl rfl ?_
        refine l_nil ?_
        exact e_got rfl
      refine a_two (L' := [true, true, false, false, true, false, true, true, false, false, false, false, false]) (L'' := [true, false, false, false, true, false, true, true, true, false, false, false, false]) 1 8 (by kernel_rfl) rfl rfl rfl rfl ?_ ?_
      · skip
        refine v_tobytes hw7 rfl rfl Try.underlying9 Try.underlying22 Try.underlying5 rfl (fun v7_1 w8 hw8 => ?_)
        try clear hw7
        refine l_nil ?_
        refine e_any (hw8.ok mem1) ?_
        refine a_two (L' := [true, true, true, false, true, false, true, true, false, false, false, false, false]) (L'' := [true, true, false, false, true, false, true, true, true, false, false, false, false]) 2 8 (by kernel_rfl) rfl rfl rfl rfl ?_ ?_
        · skip
          refine l_call rfl rfl Try.func38 rfl rfl (.cons rfl .nil) (number4 _ L (dig_at hdL) (by omega) w8 (hw8.ii mem0)) ?_
          rintro vn w9 ⟨_, ls, rfl, hRn, hG⟩
          have hw9 := hG _ _ _ _ hw8
          try clear hG hw8
          simp only [List.cons_append, List.nil_append] at hw9
          refine l_nil ?_
          refine e_any (hw9.ok mem2) ?_
          refine a_two (L' := [true, true, true, true, true, false, true, true, false, false, false, false, false]) (L'' := [true, true, true, false, true, false, true, true, true, false, false, false, false]) 3 8 (by kernel_rfl) rfl rfl rfl rfl ?_ ?_
          · skip
            refine l_callp rfl rfl Try.func37 rfl rfl (.cons rfl .nil) (trim_same hRn (by have := hRn.len (k := 8192) hbl; omega) (hw9.io mem0)) ?_
            refine l_nil ?_
            refine e_any (hw9.ok mem2) ?_
            refine a_two (L' := [true, true, true, true, true, true, true, true, false, false, false, false, false]) (L'' := [true, true, true, true, true, false, true, true, true, false, false, false, false]) 5 8 (by kernel_rfl) rfl rfl rfl rfl ?_ ?_
            · skip
              refine l_call rfl rfl Try.func32 rfl rfl (.cons rfl .nil) (expo8 ng wd W F en E hEd hEl w9) ?_
              rintro _ w10 ⟨rfl, hG⟩
              have hw10 := hG _ _ _ _ hw9
              try clear hG hw9
              simp only [List.cons_append, List.nil_append] at hw10
              refine l_nil ?_
              refine e_any (hw10.ok mem2) ?_
              apply a_take (L' := [true, true, true, true, true, true, true, true, false, false, true, false, false]) 10 rfl (by kernel_rfl) (by kernel_rfl) (by kernel_rfl) rfl rfl rfl rfl rfl (hw10.ok mem2)
              · intro wS sS
                refine l_assign rfl rfl rfl ?_
                refine l_nil ?_
                exact e_got rfl
              refine a_one (L' := [true, true, true, true, true, true, true, true, true, false, true, false, false]) 8 (by kernel_rfl) rfl rfl ?_
              refine l_lenstr rfl rfl Try.underlying9 rfl ?_
              refine l_nil ?_
              refine e_any (hw10.ok mem2) ?_
              apply a_take (L' := [true, true, true, true, true, true, true, true, true, true, true, false, false]) 9 rfl (by kernel_rfl) (by kernel_rfl) (by kernel_rfl) rfl rfl rfl rfl rfl (hw10.ok mem2)
              · intro wS sS
                refine l_sub rfl rfl rfl rfl (w_i64 (by omega)) ?_
                refine l_nil ?_
                exact e_got rfl
              apply a_take (L' := [true, true, true, true, true, true, true, true, true, true, true, true, false]) 11 rfl (by kernel_rfl) (by kernel_rfl) (by kernel_rfl) rfl rfl rfl rfl rfl (hw10.ok mem2)
              · intro wS sS
                refine l_assign rfl rfl rfl ?_
                refine l_nil ?_
                exact e_got rfl
              apply a_take (L' := [true, true, true, true, true, true, true, true, true, true, true, true, true]) 12 rfl (by kernel_rfl) (by kernel_rfl) (by kernel_rfl) rfl rfl rfl rfl rfl (hw10.ok mem2)
              · intro wS sS
                refine l_assign rfl rfl rfl ?_
                refine l_nil ?_
                exact e_got rfl
              refine a_done (by kernel_rfl) ?_
              refine e_then ?_
              refine c_keep [2, 3, 4] (.cons rfl (.cons rfl (.cons rfl .nil))) ?_
              refine c_ret ?_
              refine e_doneN Try.results18 (.tmp rfl (.tmp rfl (.tmp rfl .nil))) rfl ?_
              refine ⟨_, rfl, ?_⟩
              have hw11 := St.del (.tail (.tail .head)) hw10
              try clear hw10
              have hw12 := St.del (.tail .head) hw11
              try clear hw11
              subst hwd
              refine ⟨_, ls, pv L, _, 0, rfl, hRn, (Ma.blen_le_iff hpn 8192).1 hbl, ?_, hw12.grows⟩
              rw [hLe]
              exact .num hRd (by rw [← hLe]; exact hL0)
            · skip
              refine l_lenstr rfl rfl Try.underlying9 rfl ?_
              refine l_nil ?_
              refine e_any (hw9.ok mem2) ?_
              refine a_one (L' := [true, true, true, true, true, true, true, true, true, false, false, false, false]) 5 (by kernel_rfl) rfl rfl ?_
              refine l_call rfl rfl Try.func32 rfl rfl (.cons rfl .nil) (expo8 ng wd W F en E hEd hEl w9) ?_
              rintro _ w13 ⟨rfl, hG⟩
              have hw13 := hG _ _ _ _ hw9
              try clear hG hw9
              simp only [List.cons_append, List.nil_append] at hw13
              refine l_nil ?_
              refine e_any (hw13.ok mem2) ?_
              apply a_take (L' := [true, true, true, true, true, true, true, true, true, true, false, false, false]) 9 rfl (by kernel_rfl) (by kernel_rfl) (by kernel_rfl) rfl rfl rfl rfl rfl (hw13.ok mem2)
              · intro wS sS
                refine l_sub rfl rfl rfl rfl (w_i64 (by omega)) ?_
                refine l_nil ?_
                exact e_got rfl
              apply a_take (L' := [true, true, true, true, true, true, true, true, true, true, true, false, false]) 10 rfl (by kernel_rfl) (by kernel_rfl) (by kernel_rfl) rfl rfl rfl rfl rfl (hw13.ok mem2)
              · intro wS sS
                refine l_assign rfl rfl rfl ?_
                refine l_nil ?_
                exact e_got rfl
              apply a_take (L' := [true, true, true, true, true, true, true, true, true, true, true, true, false]) 11 rfl (by kernel_rfl) (by kernel_rfl) (by kernel_rfl) rfl rfl rfl rfl rfl (hw13.ok mem2)
              · intro wS sS
                refine l_assign rfl rfl rfl ?_
                refine l_nil ?_
                exact e_got rfl
              apply a_take (L' := [true, true, true, true, true, true, true, true, true, true, true, true, true]) 12 rfl (by kernel_rfl) (by kernel_rfl) (by kernel_rfl) rfl rfl rfl rfl rfl (hw13.ok mem2)
              · intro wS sS
                refine l_assign rfl rfl rfl ?_
                refine l_nil ?_
                exact e_got rfl
              refine a_done (by kernel_rfl) ?_
              refine e_then ?_
              refine c_keep [2, 3, 4] (.cons rfl (.cons rfl (.cons rfl .nil))) ?_
              refine c_ret ?_
              refine e_doneN Try.results18 (.tmp rfl (.tmp rfl (.tmp rfl .nil))) rfl ?_
              refine ⟨_, rfl, ?_⟩
              have hw14 := St.del (.tail (.tail .head)) hw13
              try clear hw13
              have hw15 := St.del (.tail .head) hw14
              try clear hw14
              subst hwd
              refine ⟨_, ls, pv L, _, 0, rfl, hRn, (Ma.blen_le_iff hpn 8192).1 hbl, ?_, hw15.grows⟩
              rw [hLe]
              exact .num hRd (by rw [← hLe]; exact hL0)
          · skip
            refine l_lenstr rfl rfl Try.underlying9 rfl ?_
            refine l_nil ?_
            refine e_any (hw9.ok mem2) ?_
            refine a_one (L' := [true, true, true, true, true, false, true, true, true, false, false, false, false]) 3 (by kernel_rfl) rfl rfl ?_
            refine l_callp rfl rfl Try.func37 rfl rfl (.cons rfl .nil) (trim_same hRn (by have := hRn.len (k := 8192) hbl; omega) (hw9.io mem0)) ?_
            refine l_nil ?_
            refine e_any (hw9.ok mem2) ?_
            refine a_one (L' := [true, true, true, true, true, true, true, true, true, false, false, false, false]) 5 (by kernel_rfl) rfl rfl ?_
            refine l_call rfl rfl Try.func32 rfl rfl (.cons rfl .nil) (expo8 ng wd W F en E hEd hEl w9) ?_
            rintro _ w16 ⟨rfl, hG⟩
            have hw16 := hG _ _ _ _ hw9
            try clear hG hw9
            simp only [List.cons_append, List.nil_append] at hw16
            refine l_nil ?_
            refine e_any (hw16.ok mem2) ?_
            apply a_take (L' := [true, true, true, true, true, true, true, true, true, true, false, false, false]) 9 rfl (by kernel_rfl) (by kernel_rfl) (by kernel_rfl) rfl rfl rfl rfl rfl (hw16.ok mem2)
            · intro wS sS
              refine l_sub rfl rfl rfl rfl (w_i64 (by omega)) ?_
              refine l_nil ?_
              exact e_got rfl
            apply a_take (L' := [true, true, true, true, true, true, true, true, true, true, true, false, false]) 10 rfl (by kernel_rfl) (by kernel_rfl) (by kernel_rfl) rfl rfl rfl rfl rfl (hw16.ok mem2)
            · intro wS sS
              refine l_assign rfl rfl rfl ?_
              refine l_nil ?_
              exact e_got rfl
            apply a_take (L' := [true, true, true, true, true, true, true, true, true, true, true, true, false]) 11 rfl (by kernel_rfl) (by kernel_rfl) (by kernel_rfl) rfl rfl rfl rfl rfl (hw16.ok mem2)
            · intro wS sS
              refine l_assign rfl rfl rfl ?_
              refine l_nil ?_
              exact e_got rfl
            apply a_take (L' := [true, true, true, true, true, true, true, true, true, true, true, true, true]) 12 rfl (by kernel_rfl) (by kernel_rfl) (by kernel_rfl) rfl rfl rfl rfl rfl (hw16.ok mem2)
            · intro wS sS
              refine l_assign rfl rfl rfl ?_
              refine l_nil ?_
              exact e_got rfl
            refine a_done (by kernel_rfl) ?_
            refine e_then ?_
            refine c_keep [2, 3, 4] (.cons rfl (.cons rfl (.cons rfl .nil))) ?_
            refine c_ret ?_
            refine e_doneN Try.results18 (.tmp rfl (.tmp rfl (.tmp rfl .nil))) rfl ?_
            refine ⟨_, rfl, ?_⟩
            have hw17 := St.del (.tail (.tail .head)) hw16
            try clear hw16
            have hw18 := St.del (.tail .head) hw17
            try clear hw17
            subst hwd
            refine ⟨_, ls, pv L, _, 0, rfl, hRn, (Ma.blen_le_iff hpn 8192).1 hbl, ?_, hw18.grows⟩
            rw [hLe]
            exact .num hRd (by rw [← hLe]; exact hL0)
        · skip
          refine l_lenstr rfl rfl Try.underlying9 rfl ?_
          refine l_nil ?_
          refine e_any (hw8.ok mem1) ?_
          refine a_one (L' := [true, true, true, false, true, false, true, true, true, false, false, false, false]) 2 (by kernel_rfl) rfl rfl ?_
          refine l_call rfl rfl Try.func38 rfl rfl (.cons rfl .nil) (number4 _ L (dig_at hdL) (by omega) w8 (hw8.ii mem0)) ?_
          rintro vn w19 ⟨_, ls, rfl, hRn, hG⟩
          have hw19 := hG _ _ _ _ hw8
          try clear hG hw8
          simp only [List.cons_append, List.nil_append] at hw19
          refine l_nil ?_
          refine e_any (hw19.ok mem2) ?_
          refine a_one (L' := [true, true, true, true, true, false, true, true, true, false, false, false, false]) 3 (by kernel_rfl) rfl rfl ?_
          refine l_callp rfl rfl Try.func37 rfl rfl (.cons rfl .nil) (trim_same hRn (by have := hRn.len (k := 8192) hbl; omega) (hw19.io mem0)) ?_
          refine l_nil ?_
          refine e_any (hw19.ok mem2) ?_
          refine a_one (L' := [true, true, true, true, true, true, true, true, true, false, false, false, false]) 5 (by kernel_rfl) rfl rfl ?_
          refine l_call rfl rfl Try.func32 rfl rfl (.cons rfl .nil) (expo8 ng wd W F en E hEd hEl w19) ?_
          rintro _ w20 ⟨rfl, hG⟩
          have hw20 := hG _ _ _ _ hw19
          try clear hG hw19
          simp only [List.cons_append, List.nil_append] at hw20
          refine l_nil ?_
          refine e_any (hw20.ok mem2) ?_
          apply a_take (L' := [true, true, true, true, true, true, true, true, true, true, false, false, false]) 9 rfl (by kernel_rfl) (by kernel_rfl) (by kernel_rfl) rfl rfl rfl rfl rfl (hw20.ok mem2)
          · intro wS sS
            refine l_sub rfl rfl rfl rfl (w_i64 (by omega)) ?_
            refine l_nil ?_
            exact e_got rfl
          apply a_take (L' := [true, true, true, true, true, true, true, true, true, true, true, false, false]) 10 rfl (by kernel_rfl) (by kernel_rfl) (by kernel_rfl) rfl rfl rfl rfl rfl (hw20.ok mem2)
          · intro wS sS
            refine l_assign rfl rfl rfl ?_
            refine l_nil ?_
            exact e_got rfl
          apply a_take (L' := [true, true, true, true, true, true, true, true, true, true, true, true, false]) 11 rfl (by kernel_rfl) (by kernel_rfl) (by kernel_rfl) rfl rfl rfl rfl rfl (hw20.ok mem2)
          · intro wS sS
            refine l_assign rfl rfl rfl ?_
            refine l_nil ?_
            exact e_got rfl
          apply a_take (L' := [true, true, true, true, true, true, true, true, true, true, true, true, true]) 12 rfl (by kernel_rfl) (by kernel_rfl) (by kernel_rfl) rfl rfl rfl rfl rfl (hw20.ok mem2)
          · intro wS sS
            refine l_assign rfl rfl rfl ?_
            refine l_nil ?_
            exact e_got rfl
          refine a_done (by kernel_rfl) ?_
          refine e_then ?_
          refine c_keep [2, 3, 4] (.cons rfl (.cons rfl (.cons rfl .nil))) ?_
          refine c_ret ?_
          refine e_doneN Try.results18 (.tmp rfl (.tmp rfl (.tmp rfl .nil))) rfl ?_
          refine ⟨_, rfl, ?_⟩
          have hw21 := St.del (.tail (.tail .head)) hw20
          try clear hw20
          have hw22 := St.del (.tail .head) hw21
          try clear hw21
          subst hwd
          refine ⟨_, ls, pv L, _, 0, rfl, hRn, (Ma.blen_le_iff hpn 8192).1 hbl, ?_, hw22.grows⟩
          rw [hLe]
          exact .num hRd (by rw [← hLe]; exact hL0)
      · skip
        refine l_lenstr rfl rfl Try.underlying9 rfl ?_
        refine l_nil ?_
        refine e_any (hw7.ok mem0) ?_
        refine a_one (L' := [true, true, false, false, true, false, true, true, true, false, false, false, false]) 1 (by kernel_rfl) rfl rfl ?_
        refine v_tobytes hw7 rfl rfl Try.underlying9 Try.underlying22 Try.underlying5 rfl (fun v7_1 w23 hw23 => ?_)
        try clear hw7
        refine l_nil ?_
        refine e_any (hw23.ok mem1) ?_
        refine a_one (L' := [true, true, true, false, true, false, true, true, true, false, false, false, false]) 2 (by kernel_rfl) rfl rfl ?_
        refine l_call rfl rfl Try.func38 rfl rfl (.cons rfl .nil) (number4 _ L (dig_at hdL) (by omega) w23 (hw23.ii mem0)) ?_
        rintro vn w24 ⟨_, ls, rfl, hRn, hG⟩
        have hw24 := hG _ _ _ _ hw23
        try clear hG hw23
        simp only [List.cons_append, List.nil_append] at hw24
        refine l_nil ?_
        refine e_any (hw24.ok mem2) ?_
        refine a_one (L' := [true, true, true, true, true, false, true, true, true, false, false, false, false]) 3 (by kernel_rfl) rfl rfl ?_
        refine l_callp rfl rfl Try.func37 rfl rfl (.cons rfl .nil) (trim_same hRn (by have := hRn.len (k := 8192) hbl; omega) (hw24.io mem0)) ?_
        refine l_nil ?_
        refine e_any (hw24.ok mem2) ?_
        refine a_one (L' := [true, true, true, true, true, true, true, true, true, false, false, false, false]) 5 (by kernel_rfl) rfl rfl ?_
        refine l_call rfl rfl Try.func32 rfl rfl (.cons rfl .nil) (expo8 ng wd W F en E hEd hEl w24) ?_
        rintro _ w25 ⟨rfl, hG⟩
        have hw25 := hG _ _ _ _ hw24
        try clear hG hw24
        simp only [List.cons_append, List.nil_append] at hw25
        refine l_nil ?_
        refine e_any (hw25.ok mem2) ?_
        apply a_take (L' := [true, true, true, true, true, true, true, true, true, true, false, false, false]) 9 rfl (by kernel_rfl) (by kernel_rfl) (by kernel_rfl) rfl rfl rfl rfl rfl (hw25.ok mem2)
        · intro wS sS
          refine l_sub rfl rfl rfl rfl (w_i64 (by omega)) ?_
          refine l_nil ?_
          exact e_got rfl
        apply a_take (L' := [true, true, true, true, true, true, true, true, true, true, true, false, false]) 10 rfl (by kernel_rfl) (by kernel_rfl) (by kernel_rfl) rfl rfl rfl rfl rfl (hw25.ok mem2)
        · intro wS sS
          refine l_assign rfl rfl rfl ?_
          refine l_nil ?_
          exact e_got rfl
        apply a_take (L' := [true, true, true, true, true, true, true, true, true, true, true, true, false]) 11 rfl (by kernel_rfl) (by kernel_rfl) (by kernel_rfl) rfl rfl rfl rfl rfl (hw25.ok mem2)
        · intro wS sS
          refine l_assign rfl rfl rfl ?_
          refine l_nil ?_
          exact e_got rfl
        apply a_take (L' := [true, true, true, true, true, true, true, true, true, true, true, true, true]) 12 rfl (by kernel_rfl) (by kernel_rfl) (by kernel_rfl) rfl rfl rfl rfl rfl (hw25.ok mem2)
        · intro wS sS
          refine l_assign rfl rfl rfl ?_
          refine l_nil ?_
          exact e_got rfl
        refine a_done (by kernel_rfl) ?_
        refine e_then ?_
        refine c_keep [2, 3, 4] (.cons rfl (.cons rfl (.cons rfl .nil))) ?_
        refine c_ret ?_
        refine e_doneN Try.results18 (.tmp rfl (.tmp rfl (.tmp rfl .nil))) rfl ?_
        refine ⟨_, rfl, ?_⟩
        have hw26 := St.del (.tail (.tail .head)) hw25
        try clear hw25
        have hw27 := St.del (.tail .head) hw26
        try clear hw26
        subst hwd
        refine ⟨_, ls, pv L, _, 0, rfl, hRn, (Ma.blen_le_iff hpn 8192).1 hbl, ?_, hw27.grows⟩
        rw [hLe]
        exact .num hRd (by rw [← hLe]; exact hL0)
end Go.Proofs.Ytjkaahnadaapoaa.W
