/- walks of Round, Join -/
import Derived.Test.YtmcbdgpcbcldjaaGe
set_option linter.unusedVariables false
set_option linter.unusedSimpArgs false
set_option maxRecDepth 10000
namespace Go.Proofs.Ytmcbdgpcbcldjaa.W
open Go.Vc Go.RowKit

theorem blen_eq0 {x : Int} (h : 0 ≤ x) : Ma.blen x = 0 ↔ x = 0 := by
  constructor
  · intro hb
    rcases Int.lt_or_eq_of_le h with h1 | h1
    · have := Ma.blen_pos h1; omega
    · exact h1.symm
  · intro hx; rw [hx, Ma.blen_zero]
theorem RoundR.none {k : Int} {neg : Bool} {x y : Int} (h : kd k = none) : RoundR k neg x y (0, false, 30) := by unfold RoundR; rw [h]
theorem RoundR.long {k : Int} {neg : Bool} {x y : Int} {d : Kd} (h : kd k = some d) (hl : 8192 < Ma.blen x ∨ 8192 < Ma.blen y) : RoundR k neg x y (0, false, 21) := by unfold RoundR; rw [h]; show (if _ then _ else _); rw [if_pos hl]
theorem RoundR.nil {k : Int} {neg : Bool} {x y : Int} {d : Kd} (h : kd k = some d) (hl : ¬ (8192 < Ma.blen x ∨ 8192 < Ma.blen y)) (h0 : y = 0) : RoundR k neg x y (0, false, 33) := by
  unfold RoundR; rw [h]; show (if _ then _ else _); rw [if_neg hl, if_pos h0]
theorem RoundR.is {k : Int} {neg : Bool} {x y : Int} {d : Kd} {t : Int × Bool × Int} (h : kd k = some d) (hl : ¬ (8192 < Ma.blen x ∨ 8192 < Ma.blen y)) (h0 : ¬ y = 0) (ht : RndR d.H (d.I - 1) (x * 2 ^ d.l) y t) : RoundR k neg x y (sgR d neg t) := by
  unfold RoundR; rw [h]; show (if _ then _ else _); rw [if_neg hl, if_neg h0]; exact ⟨t, ht, rfl⟩
theorem JoinR.none {k : Int} {neg : Bool} {x y : Int} (h : kd k = none) : JoinR k neg x y (0, false, 30) := by unfold JoinR; rw [h]
theorem JoinR.is {k : Int} {neg : Bool} {m e : Int} {d : Kd} {t : Int × Bool × Int} (h : kd k = some d) (ht : RndR d.H (d.I - 1) (m * 2 ^ (max (min e 2000) (-2000)).toNat * 2 ^ d.l) (2 ^ (-(max (min e 2000) (-2000))).toNat) t) : JoinR k neg m e (sgR d neg t) := by
  unfold JoinR; rw [h]; exact ⟨t, ht, rfl⟩
theorem sgR_ok {d : Kd} {neg : Bool} {t : Int × Bool × Int} (h : t.2.2 = 0) : sgR d neg t = (if neg then t.1 + d.S else t.1, t.2.1, 0) := if_pos h
theorem sgR_no {d : Kd} {neg : Bool} {t : Int × Bool × Int} (h : ¬ t.2.2 = 0) : sgR d neg t = (0, false, t.2.2) := if_neg h

theorem roundB (k : Int) (neg : Bool) (vx vy : Value) (lx ly : List Int) (hUx : U lx) (hUy : U ly) (hLx : lx.length ≤ 68719476736) (hLy : ly.length ≤ 68719476736) (w : World) (hvx : IV w vx (ints .u64 lx)) (hvy : IV w vy (ints .u64 ly)) :
    CallsV P 61 [.int .i64 k, .bool neg, vx, vy] w fun r w' => ∃ res : Int × Bool × Int, r = .tuple #[.int .u64 res.1, .bool res.2.1, .int .i64 res.2.2] ∧ RoundR k neg (nv lx) (nv ly) res ∧ Grow w w' [] := by
  refine enterW Try.func61 rfl Try.ntmps61 rfl ?_
  have hw0 := St.start w
  have hx0 := hUx.nv_nonneg
  have hy0 := hUy.nv_nonneg
  refine c_seq ?_
  refine c_region ?_
  refine l_assign rfl rfl rfl ?_
  refine l_assign rfl rfl rfl ?_
  refine l_assign rfl rfl rfl ?_
  refine l_nil ?_
  refine e_then ?_
  refine c_keep [0, 1, 2, 3] (.cons rfl (.cons rfl (.cons rfl (.cons rfl .nil)))) ?_
  refine c_seq ?_
  refine c_region ?_
  refine l_move rfl rfl rfl ?_
  refine l_call rfl rfl Try.func29 rfl rfl (.cons rfl .nil) (shapesB k w) ?_
  rintro _ w1 ⟨m, l, a, sok, rfl, hSh, hG⟩
  have hw1 := hG _ _ _ _ hw0
  try clear hG hw0
  simp only [List.cons_append, List.nil_append] at hw1
  refine l_move rfl rfl rfl ?_
  refine l_extract rfl rfl rfl rfl ?_
  refine l_extract rfl rfl rfl rfl ?_
  refine l_alloc hw1 ta61 rfl rfl (fun b1_5 w2 hw2 => ?_)
  try clear hw1
  refine l_store_blks hw2 .head (.zero (.zero (.zero .nil))) rfl tz61 rfl rfl (by first | (simp [Value.oneCell']; done) | (intro u hu; simp only [List.mem_cons, List.not_mem_nil, or_false] at hu; rcases hu with rfl | rfl | rfl <;> first | rfl | assumption)) (fun w3 hw3 => ?_)
  try clear hw2
  refine l_assign rfl rfl rfl ?_
  refine l_nil ?_
  refine e_then ?_
  refine c_keep [1, 2, 3, 11, 12] (.cons rfl (.cons rfl (.cons rfl (.cons rfl (.cons rfl .nil))))) ?_
  refine c_seq ?_
  refine c_block ?_
  refine c_seq ?_
  refine c_region ?_
  refine l_move rfl rfl rfl ?_
  first | refine l_notd rfl rfl rfl ?_ | refine l_not rfl rfl rfl ?_
  refine l_assign rfl rfl rfl ?_
  refine l_nil ?_
  refine e_then ?_
  refine c_keep [1, 2, 3, 11, 18] (.cons rfl (.cons rfl (.cons rfl (.cons rfl (.cons rfl .nil))))) ?_
  first | refine c_cond rfl (fun hc0 => ?_) (fun hc0 => ?_) | refine c_condb rfl (fun hc0 => ?_) (fun hc0 => ?_)
  · skip
    have hno : kd k = none := by
      rw [hSh.is] at hc0
      cases h : kd k with
      | none => rfl
      | some d => rw [h] at hc0; simp at hc0
    refine c_seq ?_
    refine c_region ?_
    refine l_assign rfl rfl rfl ?_
    refine l_assign rfl rfl rfl ?_
    refine l_assign rfl rfl rfl ?_
    refine l_nil ?_
    refine e_then ?_
    refine c_keep [8, 9, 10] (.cons rfl (.cons rfl (.cons rfl .nil))) ?_
    refine c_ret ?_
    refine e_blk_ret ?_
    refine e_then_ret ?_
    refine e_doneN Try.results61 (.tmp rfl (.tmp rfl (.tmp rfl .nil))) rfl ?_
    refine ⟨_, rfl, ?_⟩
    have hw4 := St.del .head hw3
    try clear hw3
    exact ⟨_, rfl, RoundR.none hno, hw4.grows⟩
  · skip
    obtain ⟨d, hd⟩ : ∃ d, kd k = some d := by
      rw [hSh.is] at hc0
      cases h : kd k with
      | none => rw [h] at hc0; simp at hc0
      | some d => exact ⟨d, rfl⟩
    obtain ⟨rfl, rfl, rfl⟩ := hSh.at hd
    have hbd := d.bd
    refine c_seq ?_
    refine c_region ?_
    refine l_move rfl rfl rfl ?_
    refine l_callp rfl rfl Try.func56 rfl rfl (.cons rfl .nil) (lenV hUx (by omega) (hw3.iarg hvx)) ?_
    refine l_gtr rfl rfl rfl rfl ?_
    refine l_move rfl rfl rfl ?_
    apply l_or 3 [1, 2, 3, 11] rfl rfl (.cons rfl (.cons rfl (.cons rfl (.cons rfl (.cons rfl .nil))))) rfl rfl (fun _ => rfl) rfl rfl rfl
    · intro hg4_4
      refine l_move rfl rfl rfl ?_
      refine l_callp rfl rfl Try.func56 rfl rfl (.cons rfl .nil) (lenV hUy (by omega) (hw3.iarg hvy)) ?_
      refine l_gtr rfl rfl rfl rfl ?_
      refine l_nil ?_
      exact e_stays rfl (.cons rfl (congrArg Value.bool (decide_eq_false hg4_4).symm) (.cons rfl rfl (.cons rfl rfl (.cons rfl rfl (.cons rfl rfl .nil)))))
    refine l_assign rfl rfl rfl ?_
    refine l_nil ?_
    refine e_then ?_
    refine c_keep [1, 2, 3, 11, 21] (.cons rfl (.cons rfl (.cons rfl (.cons rfl (.cons rfl .nil))))) ?_
    first | refine c_cond rfl (fun hc1 => ?_) (fun hc1 => ?_) | refine c_condb rfl (fun hc1 => ?_) (fun hc1 => ?_)
    · skip
      refine c_seq ?_
      refine c_region ?_
      refine l_assign rfl rfl rfl ?_
      refine l_assign rfl rfl rfl ?_
      refine l_assign rfl rfl rfl ?_
      refine l_nil ?_
      refine e_then ?_
      refine c_keep [8, 9, 10] (.cons rfl (.cons rfl (.cons rfl .nil))) ?_
      refine c_ret ?_
      refine e_blk_ret ?_
      refine e_then_ret ?_
      refine e_doneN Try.results61 (.tmp rfl (.tmp rfl (.tmp rfl .nil))) rfl ?_
      refine ⟨_, rfl, ?_⟩
      have hw5 := St.del .head hw3
      try clear hw3
      exact ⟨_, rfl, RoundR.long hd hc1, hw5.grows⟩
    · skip
      refine c_seq ?_
      refine c_region ?_
      refine l_move rfl rfl rfl ?_
      refine l_callp rfl rfl Try.func56 rfl rfl (.cons rfl .nil) (lenV hUy (by omega) (hw3.iarg hvy)) ?_
      refine l_eql rfl rfl rfl rfl ?_
      refine l_assign rfl rfl rfl ?_
      refine l_nil ?_
      refine e_then ?_
      refine c_keep [1, 2, 3, 11, 30] (.cons rfl (.cons rfl (.cons rfl (.cons rfl (.cons rfl .nil))))) ?_
      first | refine c_cond rfl (fun hc2 => ?_) (fun hc2 => ?_) | refine c_condb rfl (fun hc2 => ?_) (fun hc2 => ?_)
      · skip
        have hy1 : nv ly = 0 := (blen_eq0 hy0).1 hc2
        refine c_seq ?_
        refine c_region ?_
        refine l_assign rfl rfl rfl ?_
        refine l_assign rfl rfl rfl ?_
        refine l_assign rfl rfl rfl ?_
        refine l_nil ?_
        refine e_then ?_
        refine c_keep [8, 9, 10] (.cons rfl (.cons rfl (.cons rfl .nil))) ?_
        refine c_ret ?_
        refine e_blk_ret ?_
        refine e_then_ret ?_
        refine e_doneN Try.results61 (.tmp rfl (.tmp rfl (.tmp rfl .nil))) rfl ?_
        refine ⟨_, rfl, ?_⟩
        have hw6 := St.del .head hw3
        try clear hw3
        exact ⟨_, rfl, RoundR.nil hd hc1 hy1, hw6.grows⟩
      · skip
        have hy1 : ¬ nv ly = 0 := fun h => hc2 ((blen_eq0 hy0).2 h)
        refine c_seq ?_
        refine c_region ?_
        refine l_move rfl rfl rfl ?_
        refine l_callp rfl rfl Try.func56 rfl rfl (.cons rfl .nil) (lenV hUx (by omega) (hw3.iarg hvx)) ?_
        refine l_eql rfl rfl rfl rfl ?_
        refine l_assign rfl rfl rfl ?_
        refine l_nil ?_
        refine e_then ?_
        refine c_keep [1, 2, 3, 11, 34] (.cons rfl (.cons rfl (.cons rfl (.cons rfl (.cons rfl .nil))))) ?_
        first | refine c_cond rfl (fun hc3 => ?_) (fun hc3 => ?_) | refine c_condb rfl (fun hc3 => ?_) (fun hc3 => ?_)
        · skip
          have hx1 : nv lx = 0 := (blen_eq0 hx0).1 hc3
          refine c_seq ?_
          refine c_region ?_
          refine l_load_agg hw3 mem0 rfl rfl Try.underlying61 rfl tz61 rfl (.take (.take (.take .nil))) ?_
          refine l_move rfl rfl rfl ?_
          refine l_call rfl rfl Try.func30 rfl rfl (.cons rfl (.cons rfl (.cons rfl .nil))) (signedB d neg 0 (by omega) w3) ?_
          rintro _ w7 ⟨rfl, hG⟩
          have hw7 := hG _ _ _ _ hw3
          try clear hG hw3
          simp only [List.cons_append, List.nil_append] at hw7
          refine l_assign rfl rfl rfl ?_
          refine l_assign rfl rfl rfl ?_
          refine l_assign rfl rfl rfl ?_
          refine l_nil ?_
          refine e_then ?_
          refine c_keep [8, 9, 10] (.cons rfl (.cons rfl (.cons rfl .nil))) ?_
          refine c_ret ?_
          refine e_blk_ret ?_
          refine e_then_ret ?_
          refine e_doneN Try.results61 (.tmp rfl (.tmp rfl (.tmp rfl .nil))) rfl ?_
          refine ⟨_, rfl, ?_⟩
          have hw8 := St.del .head hw7
          try clear hw7
          refine ⟨(if neg = true then 0 + d.S else 0, true, 0), rfl, ?_, hw8.grows⟩
          have hz := RndR.zero (H := d.H) (G := d.I - 1) (D := nv ly) d.I_lt.2.2 d.I_lt.1 d.I_lt.2.1 (by omega)
          have hr := RoundR.is (neg := neg) (x := nv lx) (y := nv ly) hd hc1 hy1 (t := (0, true, 0)) (by rw [hx1, Int.zero_mul]; exact hz)
          rw [sgR_ok rfl] at hr
          exact hr
        · skip
          have hx1 : ¬ nv lx = 0 := fun h => hc3 ((blen_eq0 hx0).2 h)
          have hxp : 0 < nv lx := by omega
          have hyp : 0 < nv ly := by omega
          refine c_skip ?_
          refine e_blk ?_
          refine e_then ?_
          refine c_keep [1, 2, 3, 11] (.cons rfl (.cons rfl (.cons rfl (.cons rfl .nil)))) ?_
          refine c_seq ?_
          have hw9 := hw3.drewn
          try clear hw3
          refine c_any (n := 15) [false, false, false, false, false, false, false, false, false, false, false, false, false, false, false] (fun wS => (As.blk b1_5 61 [.int .i64 (d.M : Int), .int .i64 (-(d.l : Int)), .int .i64 (d.A : Int)]).ok wS) (by kernel_rfl) rfl rfl ?_
          apply a_take (L' := [true, false, false, false, false, false, false, false, false, false, false, false, false, false, false]) 0 rfl (by kernel_rfl) (by kernel_rfl) (by kernel_rfl) rfl rfl rfl rfl rfl (hw9.ok mem0)
          · intro wS sS
            refine l_load_agg (blk_st sS) mem0 rfl rfl Try.underlying61 rfl tz61 rfl (.take (.take (.take .nil))) ?_
            refine l_nil ?_
            exact e_got rfl
          apply a_take (L' := [true, true, false, false, false, false, false, false, false, false, false, false, false, false, false]) 1 rfl (by kernel_rfl) (by kernel_rfl) (by kernel_rfl) rfl rfl rfl rfl rfl (hw9.ok mem0)
          · intro wS sS
            refine l_move rfl rfl rfl ?_
            refine l_nil ?_
            exact e_got rfl
          apply a_take (L' := [true, true, true, false, false, false, false, false, false, false, false, false, false, false, false]) 2 rfl (by kernel_rfl) (by kernel_rfl) (by kernel_rfl) rfl rfl rfl rfl rfl (hw9.ok mem0)
          · intro wS sS
            refine l_move rfl rfl rfl ?_
            refine l_nil ?_
            exact e_got rfl
          refine a_one (L' := [true, true, true, true, false, false, false, false, false, false, false, false, false, false, false]) 3 (by kernel_rfl) rfl rfl ?_
          refine l_call rfl rfl Try.func79 rfl rfl (.cons rfl (.cons rfl .nil)) (ratioB vx vy lx ly hUx hUy hLx hLy hxp hyp (by omega) (by omega) w3.drew (hw9.iarg hvx) (hw9.iarg hvy)) ?_
          rintro _ w10 ⟨man, exp, some, rfl, hman, hexp, hrnd, hG⟩
          have hw10 := hG _ _ _ _ hw9
          try clear hG hw9
          simp only [List.cons_append, List.nil_append] at hw10
          refine l_nil ?_
          refine e_any (hw10.ok mem0) ?_
          apply a_take (L' := [true, true, true, true, true, false, false, false, false, false, false, false, false, false, false]) 4 rfl (by kernel_rfl) (by kernel_rfl) (by kernel_rfl) rfl rfl rfl rfl rfl (hw10.ok mem0)
          · intro wS sS
            refine l_extract rfl rfl rfl rfl ?_
            refine l_nil ?_
            exact e_got rfl
          apply a_take (L' := [true, true, true, true, true, true, false, false, false, false, false, false, false, false, false]) 5 rfl (by kernel_rfl) (by kernel_rfl) (by kernel_rfl) rfl rfl rfl rfl rfl (hw10.ok mem0)
          · intro wS sS
            refine l_extract rfl rfl rfl rfl ?_
            refine l_nil ?_
            exact e_got rfl
          apply a_take (L' := [true, true, true, true, true, true, true, false, false, false, false, false, false, false, false]) 6 rfl (by kernel_rfl) (by kernel_rfl) (by kernel_rfl) rfl rfl rfl rfl rfl (hw10.ok mem0)
          · intro wS sS
            refine l_extract rfl rfl rfl rfl ?_
            refine l_nil ?_
            exact e_got rfl
          refine a_one (L' := [true, true, true, true, true, true, true, true, false, false, false, false, false, false, false]) 7 (by kernel_rfl) rfl rfl ?_
          refine l_call rfl rfl Try.func31 rfl rfl (.cons rfl (.cons rfl (.cons rfl (.cons rfl .nil)))) (packB d man exp some hman (by omega) w10) ?_
          rintro _ w11 ⟨rfl, hG⟩
          have hw11 := hG _ _ _ _ hw10
          try clear hG hw10
          simp only [List.cons_append, List.nil_append] at hw11
          refine l_nil ?_
          refine e_any (hw11.ok mem0) ?_
          apply a_take (L' := [true, true, true, true, true, true, true, true, true, false, false, false, false, false, false]) 8 rfl (by kernel_rfl) (by kernel_rfl) (by kernel_rfl) rfl rfl rfl rfl rfl (hw11.ok mem0)
          · intro wS sS
            refine l_move rfl rfl rfl ?_
            refine l_nil ?_
            exact e_got rfl
          apply a_take (L' := [true, true, true, true, true, true, true, true, true, true, false, false, false, false, false]) 9 rfl (by kernel_rfl) (by kernel_rfl) (by kernel_rfl) rfl rfl rfl rfl rfl (hw11.ok mem0)
          · intro wS sS
            refine l_extract rfl rfl rfl rfl ?_
            refine l_nil ?_
            exact e_got rfl
          apply a_take (L' := [true, true, true, true, true, true, true, true, true, true, true, false, false, false, false]) 10 rfl (by kernel_rfl) (by kernel_rfl) (by kernel_rfl) rfl rfl rfl rfl rfl (hw11.ok mem0)
          · intro wS sS
            refine l_extract rfl rfl rfl rfl ?_
            refine l_nil ?_
            exact e_got rfl
          apply a_take (L' := [true, true, true, true, true, true, true, true, true, true, true, true, false, false, false]) 11 rfl (by kernel_rfl) (by kernel_rfl) (by kernel_rfl) rfl rfl rfl rfl rfl (hw11.ok mem0)
          · intro wS sS
            refine l_extract rfl rfl rfl rfl ?_
            refine l_nil ?_
            exact e_got rfl
          apply a_take (L' := [true, true, true, true, true, true, true, true, true, true, true, true, true, false, false]) 12 rfl (by kernel_rfl) (by kernel_rfl) (by kernel_rfl) rfl rfl rfl rfl rfl (hw11.ok mem0)
          · intro wS sS
            refine l_assign rfl rfl rfl ?_
            refine l_nil ?_
            exact e_got rfl
          apply a_take (L' := [true, true, true, true, true, true, true, true, true, true, true, true, true, true, false]) 13 rfl (by kernel_rfl) (by kernel_rfl) (by kernel_rfl) rfl rfl rfl rfl rfl (hw11.ok mem0)
          · intro wS sS
            refine l_assign rfl rfl rfl ?_
            refine l_nil ?_
            exact e_got rfl
          apply a_take (L' := [true, true, true, true, true, true, true, true, true, true, true, true, true, true, true]) 14 rfl (by kernel_rfl) (by kernel_rfl) (by kernel_rfl) rfl rfl rfl rfl rfl (hw11.ok mem0)
          · intro wS sS
            refine l_assign rfl rfl rfl ?_
            refine l_nil ?_
            exact e_got rfl
          refine a_done (by kernel_rfl) ?_
          refine e_then ?_
          refine c_keep [1, 8, 9, 10, 11] (.cons rfl (.cons rfl (.cons rfl (.cons rfl (.cons rfl .nil))))) ?_
          refine c_seq ?_
          refine c_seq ?_
          refine c_region ?_
          have ht := (hrnd d).bd (by have := d.I_lt; omega)
          refine l_move rfl rfl rfl ?_
          refine l_neq rfl rfl rfl rfl ?_
          refine l_nil ?_
          refine e_then ?_
          refine c_keep [1, 8, 9, 10, 11, 54] (.cons rfl (.cons rfl (.cons rfl (.cons rfl (.cons rfl (.cons rfl .nil)))))) ?_
          first | refine c_cond rfl (fun hc4 => ?_) (fun hc4 => ?_) | refine c_condb rfl (fun hc4 => ?_) (fun hc4 => ?_)
          · skip
            refine c_seq ?_
            refine c_region ?_
            refine l_move rfl rfl rfl ?_
            refine l_assign rfl rfl rfl ?_
            refine l_assign rfl rfl rfl ?_
            refine l_assign rfl rfl rfl ?_
            refine l_nil ?_
            refine e_then ?_
            refine c_keep [8, 9, 10] (.cons rfl (.cons rfl (.cons rfl .nil))) ?_
            refine c_ret ?_
            refine e_then_ret ?_
            refine e_doneN Try.results61 (.tmp rfl (.tmp rfl (.tmp rfl .nil))) rfl ?_
            refine ⟨_, rfl, ?_⟩
            have hw12 := St.del .head hw11
            try clear hw11
            refine ⟨(0, false, (packF d man exp some).2.2), rfl, ?_, hw12.grows⟩
            have hr := RoundR.is (neg := neg) hd hc1 hy1 (hrnd d)
            rw [sgR_no hc4] at hr
            exact hr
          · skip
            refine c_skip ?_
            refine e_then ?_
            refine c_keep [1, 8, 9, 11] (.cons rfl (.cons rfl (.cons rfl (.cons rfl .nil)))) ?_
            refine c_seq ?_
            refine c_region ?_
            refine l_load_agg hw11 mem0 rfl rfl Try.underlying61 rfl tz61 rfl (.take (.take (.take .nil))) ?_
            refine l_move rfl rfl rfl ?_
            refine l_move rfl rfl rfl ?_
            refine l_call rfl rfl Try.func30 rfl rfl (.cons rfl (.cons rfl (.cons rfl .nil))) (signedB d neg (packF d man exp some).1 (by omega) w11) ?_
            rintro _ w13 ⟨rfl, hG⟩
            have hw13 := hG _ _ _ _ hw11
            try clear hG hw11
            simp only [List.cons_append, List.nil_append] at hw13
            refine l_move rfl rfl rfl ?_
            refine l_assign rfl rfl rfl ?_
            refine l_assign rfl rfl rfl ?_
            refine l_assign rfl rfl rfl ?_
            refine l_nil ?_
            refine e_then ?_
            refine c_keep [8, 9, 10] (.cons rfl (.cons rfl (.cons rfl .nil))) ?_
            refine c_ret ?_
            refine e_doneN Try.results61 (.tmp rfl (.tmp rfl (.tmp rfl .nil))) rfl ?_
            refine ⟨_, rfl, ?_⟩
            have hw14 := St.del .head hw13
            try clear hw13
            refine ⟨(if neg = true then (packF d man exp some).1 + d.S else (packF d man exp some).1, (packF d man exp some).2.1, 0), rfl, ?_, hw14.grows⟩
            have hr := RoundR.is (neg := neg) hd hc1 hy1 (hrnd d)
            rw [sgR_ok (by omega)] at hr
            exact hr
theorem joinB (k : Int) (neg : Bool) (man exp : Int) (hm : 0 ≤ man ∧ man ≤ 18446744073709551615) (he : -9223372036854775808 ≤ exp ∧ exp ≤ 9223372036854775807) (w : World) :
    CallsV P 8 [.int .i64 k, .agg #[.bool neg, .int .u64 man, .int .i64 exp]] w fun r w' => ∃ res : Int × Bool × Int, r = .tuple #[.int .u64 res.1, .bool res.2.1, .int .i64 res.2.2] ∧ JoinR k neg man exp res ∧ Grow w w' [] := by
  refine enterW Try.func8 rfl Try.ntmps8 rfl ?_
  have hw0 := St.start w
  refine c_seq ?_
  refine c_region ?_
  refine l_box hw0 rfl rfl rfl (fun b0_0 w1 hw1 => ?_)
  try clear hw0
  refine l_assign rfl rfl rfl ?_
  refine l_assign rfl rfl rfl ?_
  refine l_assign rfl rfl rfl ?_
  refine l_nil ?_
  refine e_then ?_
  refine c_keep [0, 3] (.cons rfl (.cons rfl .nil)) ?_
  refine c_seq ?_
  refine c_region ?_
  refine l_move rfl rfl rfl ?_
  refine l_call rfl rfl Try.func29 rfl rfl (.cons rfl .nil) (shapesB k w1) ?_
  rintro _ w2 ⟨m, l, a, sok, rfl, hSh, hG⟩
  have hw2 := hG _ _ _ _ hw1
  try clear hG hw1
  simp only [List.cons_append, List.nil_append] at hw2
  refine l_move rfl rfl rfl ?_
  refine l_extract rfl rfl rfl rfl ?_
  refine l_extract rfl rfl rfl rfl ?_
  refine l_alloc hw2 ta61 rfl rfl (fun b1_5 w3 hw3 => ?_)
  try clear hw2
  refine l_store_blks hw3 .head (.zero (.zero (.zero .nil))) rfl tz61 rfl rfl (by first | (simp [Value.oneCell']; done) | (intro u hu; simp only [List.mem_cons, List.not_mem_nil, or_false] at hu; rcases hu with rfl | rfl | rfl <;> first | rfl | assumption)) (fun w4 hw4 => ?_)
  try clear hw3
  refine l_assign rfl rfl rfl ?_
  refine l_nil ?_
  refine e_then ?_
  refine c_keep [3, 7, 8] (.cons rfl (.cons rfl (.cons rfl .nil))) ?_
  refine c_seq ?_
  refine c_block ?_
  refine c_seq ?_
  refine c_region ?_
  refine l_move rfl rfl rfl ?_
  first | refine l_notd rfl rfl rfl ?_ | refine l_not rfl rfl rfl ?_
  refine l_assign rfl rfl rfl ?_
  refine l_nil ?_
  refine e_then ?_
  refine c_keep [3, 7, 14] (.cons rfl (.cons rfl (.cons rfl .nil))) ?_
  first | refine c_cond rfl (fun hc0 => ?_) (fun hc0 => ?_) | refine c_condb rfl (fun hc0 => ?_) (fun hc0 => ?_)
  · skip
    have hno : kd k = none := by
      rw [hSh.is] at hc0
      cases h : kd k with
      | none => rfl
      | some d => rw [h] at hc0; simp at hc0
    refine c_seq ?_
    refine c_region ?_
    refine l_assign rfl rfl rfl ?_
    refine l_assign rfl rfl rfl ?_
    refine l_assign rfl rfl rfl ?_
    refine l_nil ?_
    refine e_then ?_
    refine c_keep [4, 5, 6] (.cons rfl (.cons rfl (.cons rfl .nil))) ?_
    refine c_ret ?_
    refine e_blk_ret ?_
    refine e_then_ret ?_
    refine e_doneN Try.results8 (.tmp rfl (.tmp rfl (.tmp rfl .nil))) rfl ?_
    refine ⟨_, rfl, ?_⟩
    have hw5 := St.del (.tail .head) hw4
    try clear hw4
    have hw6 := St.del .head hw5
    try clear hw5
    exact ⟨_, rfl, JoinR.none hno, hw6.grows⟩
  · skip
    obtain ⟨d, hd⟩ : ∃ d, kd k = some d := by
      rw [hSh.is] at hc0
      cases h : kd k with
      | none => rw [h] at hc0; simp at hc0
      | some d => exact ⟨d, rfl⟩
    obtain ⟨rfl, rfl, rfl⟩ := hSh.at hd
    have hbd := d.bd
    refine c_seq ?_
    refine c_region ?_
    refine l_field fo27_1 rfl rfl rfl ?_
    refine l_load_blk hw4 mem1 rfl rfl Try.underlying22 rfl rfl rfl ?_
    refine l_eql rfl rfl rfl rfl ?_
    refine l_assign rfl rfl rfl ?_
    refine l_nil ?_
    refine e_then ?_
    refine c_keep [3, 7, 17] (.cons rfl (.cons rfl (.cons rfl .nil))) ?_
    first | refine c_cond rfl (fun hc1 => ?_) (fun hc1 => ?_) | refine c_condb rfl (fun hc1 => ?_) (fun hc1 => ?_)
    · skip
      refine c_seq ?_
      refine c_region ?_
      refine l_load_agg hw4 mem0 rfl rfl Try.underlying61 rfl tz61 rfl (.take (.take (.take .nil))) ?_
      refine l_field fo27_0 rfl rfl rfl ?_
      refine l_load_blk hw4 mem1 rfl rfl Try.underlying4 rfl rfl rfl ?_
      refine l_call rfl rfl Try.func30 rfl rfl (.cons rfl (.cons rfl (.cons rfl .nil))) (signedB d neg 0 (by omega) w4) ?_
      rintro _ w7 ⟨rfl, hG⟩
      have hw7 := hG _ _ _ _ hw4
      try clear hG hw4
      simp only [List.cons_append, List.nil_append] at hw7
      refine l_assign rfl rfl rfl ?_
      refine l_assign rfl rfl rfl ?_
      refine l_assign rfl rfl rfl ?_
      refine l_nil ?_
      refine e_then ?_
      refine c_keep [4, 5, 6] (.cons rfl (.cons rfl (.cons rfl .nil))) ?_
      refine c_ret ?_
      refine e_blk_ret ?_
      refine e_then_ret ?_
      refine e_doneN Try.results8 (.tmp rfl (.tmp rfl (.tmp rfl .nil))) rfl ?_
      refine ⟨_, rfl, ?_⟩
      have hw8 := St.del (.tail .head) hw7
      try clear hw7
      have hw9 := St.del .head hw8
      try clear hw8
      refine ⟨(if neg = true then 0 + d.S else 0, true, 0), rfl, ?_, hw9.grows⟩
      have hz := RndR.zero (H := d.H) (G := d.I - 1) (D := 2 ^ (-(max (min exp 2000) (-2000))).toNat) d.I_lt.2.2 d.I_lt.1 d.I_lt.2.1 (p2 _)
      have hr := JoinR.is (neg := neg) (m := man) (e := exp) hd (t := (0, true, 0)) (by rw [hc1, Int.zero_mul, Int.zero_mul]; exact hz)
      rw [sgR_ok rfl] at hr
      exact hr
    · skip
      have hrnd := join_rnd d (man := man) (exp := exp) (by omega) rfl
      have ht := hrnd.bd (by have := d.I_lt; omega)
      refine c_skip ?_
      refine e_blk ?_
      refine e_then ?_
      refine c_keep [3, 7] (.cons rfl (.cons rfl .nil)) ?_
      refine c_seq ?_
      refine c_region ?_
      refine l_load_agg hw4 mem0 rfl rfl Try.underlying61 rfl tz61 rfl (.take (.take (.take .nil))) ?_
      refine l_field fo27_1 rfl rfl rfl ?_
      refine l_load_blk hw4 mem1 rfl rfl Try.underlying22 rfl rfl rfl ?_
      refine l_field fo27_2 rfl rfl rfl ?_
      refine l_load_blk hw4 mem1 rfl rfl Try.underlying3 rfl rfl rfl ?_
      refine l_call rfl rfl Try.func31 rfl rfl (.cons rfl (.cons rfl (.cons rfl (.cons rfl .nil)))) (packB d man exp false hm he w4) ?_
      rintro _ w10 ⟨rfl, hG⟩
      have hw10 := hG _ _ _ _ hw4
      try clear hG hw4
      simp only [List.cons_append, List.nil_append] at hw10
      refine l_move rfl rfl rfl ?_
      refine l_extract rfl rfl rfl rfl ?_
      refine l_extract rfl rfl rfl rfl ?_
      refine l_extract rfl rfl rfl rfl ?_
      refine l_assign rfl rfl rfl ?_
      refine l_assign rfl rfl rfl ?_
      refine l_assign rfl rfl rfl ?_
      refine l_nil ?_
      refine e_then ?_
      refine c_keep [3, 4, 5, 6, 7] (.cons rfl (.cons rfl (.cons rfl (.cons rfl (.cons rfl .nil))))) ?_
      refine c_seq ?_
      refine c_seq ?_
      refine c_region ?_
      refine l_move rfl rfl rfl ?_
      refine l_neq rfl rfl rfl rfl ?_
      refine l_nil ?_
      refine e_then ?_
      refine c_keep [3, 4, 5, 6, 7, 36] (.cons rfl (.cons rfl (.cons rfl (.cons rfl (.cons rfl (.cons rfl .nil)))))) ?_
      first | refine c_cond rfl (fun hc2 => ?_) (fun hc2 => ?_) | refine c_condb rfl (fun hc2 => ?_) (fun hc2 => ?_)
      · skip
        refine c_seq ?_
        refine c_region ?_
        refine l_move rfl rfl rfl ?_
        refine l_assign rfl rfl rfl ?_
        refine l_assign rfl rfl rfl ?_
        refine l_assign rfl rfl rfl ?_
        refine l_nil ?_
        refine e_then ?_
        refine c_keep [4, 5, 6] (.cons rfl (.cons rfl (.cons rfl .nil))) ?_
        refine c_ret ?_
        refine e_then_ret ?_
        refine e_doneN Try.results8 (.tmp rfl (.tmp rfl (.tmp rfl .nil))) rfl ?_
        refine ⟨_, rfl, ?_⟩
        have hw11 := St.del (.tail .head) hw10
        try clear hw10
        have hw12 := St.del .head hw11
        try clear hw11
        refine ⟨(0, false, (packF d man exp false).2.2), rfl, ?_, hw12.grows⟩
        have hr := JoinR.is (neg := neg) hd hrnd
        rw [sgR_no hc2] at hr
        exact hr
      · skip
        refine c_skip ?_
        refine e_then ?_
        refine c_keep [3, 4, 5, 7] (.cons rfl (.cons rfl (.cons rfl (.cons rfl .nil)))) ?_
        refine c_seq ?_
        refine c_region ?_
        refine l_load_agg hw10 mem0 rfl rfl Try.underlying61 rfl tz61 rfl (.take (.take (.take .nil))) ?_
        refine l_field fo27_0 rfl rfl rfl ?_
        refine l_load_blk hw10 mem1 rfl rfl Try.underlying4 rfl rfl rfl ?_
        refine l_move rfl rfl rfl ?_
        refine l_call rfl rfl Try.func30 rfl rfl (.cons rfl (.cons rfl (.cons rfl .nil))) (signedB d neg (packF d man exp false).1 (by omega) w10) ?_
        rintro _ w13 ⟨rfl, hG⟩
        have hw13 := hG _ _ _ _ hw10
        try clear hG hw10
        simp only [List.cons_append, List.nil_append] at hw13
        refine l_move rfl rfl rfl ?_
        refine l_assign rfl rfl rfl ?_
        refine l_assign rfl rfl rfl ?_
        refine l_assign rfl rfl rfl ?_
        refine l_nil ?_
        refine e_then ?_
        refine c_keep [4, 5, 6] (.cons rfl (.cons rfl (.cons rfl .nil))) ?_
        refine c_ret ?_
        refine e_doneN Try.results8 (.tmp rfl (.tmp rfl (.tmp rfl .nil))) rfl ?_
        refine ⟨_, rfl, ?_⟩
        have hw14 := St.del (.tail .head) hw13
        try clear hw13
        have hw15 := St.del .head hw14
        try clear hw14
        refine ⟨(if neg = true then (packF d man exp false).1 + d.S else (packF d man exp false).1, (packF d man exp false).2.1, 0), rfl, ?_, hw15.grows⟩
        have hr := JoinR.is (neg := neg) hd hrnd
        rw [sgR_ok (by omega)] at hr
        exact hr
end Go.Proofs.Ytmcbdgpcbcldjaa.W
