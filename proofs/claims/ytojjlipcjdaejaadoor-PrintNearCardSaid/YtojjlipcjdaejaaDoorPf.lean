/- walks of print.begun, asked -/
import Derived.Test.YtojjlipcjdaejaaDoorPa
set_option linter.unusedVariables false
set_option linter.unusedSimpArgs false
set_option maxRecDepth 10000
namespace Go.Proofs.YtojjlipcjdaejaaDoor.W
open Go.Vc Go.RowKit
def As.triv : As := ⟨fun _ => False, fun _ => True, fun _ _ _ h => h⟩
theorem St.triv {w0 w : World} {B : Nat} {M : Nat → Prop} {σ : List As} (hw : St w0 B M σ w) : St w0 B M (As.triv :: σ) w := ⟨hw.ext, hw.base, trivial, fun _ h => h.elim, fun _ _ _ h => h.elim, hw.sep⟩
def BegR (k b : Int) (p R : Value) (over : Bool) (e : Int) (A1 A2 : As) : Prop := e = (clsF k b).2 ∧ (e = 0 → ∃ d lb vt t, kd k = some d ∧ b < 2 * d.S ∧ p = .pointer (some ⟨lb, 0, none⟩) ∧ A1 = As.blk lb 52 [vt] ∧ A2 = As.rb 5 vt t ∧ t.length ≤ 10 ∧
 (over = true → d.I ≤ b % d.S ∧ t = wdT d b []) ∧ (over = false → b % d.S < d.I ∧ t = sgT d b ∧ R = .agg #[.bool (decide (d.S ≤ b)), .int .u64 (splM d (b % d.S)), .int .i64 (splE d (b % d.S))]))
theorem infsK {k : Int} {d : Kd} (hk : kd k = some d) (w : World) : CallsV P 44 [.int .i64 k, .bool false] w fun r w' => r = .tuple #[.int .u64 d.I, .int .i64 0] ∧ Grow w w' [] := by
 refine (infsB k false w).mono ?_
 rintro r w' ⟨rfl, hG⟩
 rw [hk]
 exact ⟨rfl, hG⟩
theorem begunP (k b : Int) (hb : 0 ≤ b ∧ b ≤ 18446744073709551615) (w : World) :
  CallsV P 34 [.int .i64 k, .int .u64 b] w fun r w' => ∃ p R over e A1 A2, r = .tuple #[p, R, .bool over, .int .i64 e] ∧ BegR k b p R over e A1 A2 ∧ (∃ n1 n2 n3, R = .agg #[.bool n1, .int .u64 n2, .int .i64 n3]) ∧ Grow w w' [A1, A2] := by
 refine enterW Tryd.func34 rfl Tryd.ntmps34 rfl ?_
 have hw0 := St.start w
 refine c_seq (c_region (l_assign rfl rfl rfl ?_))
 refine l_alloc hw0 ta30 rfl rfl (fun b0_1 w1 hw1 => ?_)
 try clear hw0
 refine l_assign rfl rfl rfl (l_assign rfl rfl rfl (l_nil (e_then ?_)))
 refine c_keep [0, 1, 5] (.cons rfl (.cons rfl (.cons rfl .nil))) ?_
 refine c_seq (c_region (l_move rfl rfl rfl (l_move rfl rfl rfl ?_)))
 refine l_call rfl rfl Tryd.func20 rfl rfl (.cons rfl (.cons rfl .nil)) (classB k b hb w1) ?_
 rintro _ w2 ⟨rfl, hG⟩
 have hw2 := hG _ _ _ _ hw1
 try clear hG hw1
 simp only [List.cons_append, List.nil_append] at hw2
 refine l_move rfl rfl rfl (l_extract rfl rfl rfl rfl (l_extract rfl rfl rfl rfl (l_assign rfl rfl rfl (l_assign rfl rfl rfl (l_nil ?_)))))
 refine e_then ?_
 refine c_keep [0, 1, 5, 7, 8] (.cons rfl (.cons rfl (.cons rfl (.cons rfl (.cons rfl .nil))))) ?_
 refine c_seq (c_seq (c_region (l_move rfl rfl rfl ?_)))
 refine l_neq rfl rfl rfl rfl ?_
 refine l_nil (e_then ?_)
 refine c_keep [0, 1, 5, 7, 8, 18] (.cons rfl (.cons rfl (.cons rfl (.cons rfl (.cons rfl (.cons rfl .nil)))))) ?_
 first | refine c_cond rfl (fun hc0 => ?_) (fun hc0 => ?_) | refine c_condb rfl (fun hc0 => ?_) (fun hc0 => ?_)
 ·skip
  refine c_seq ?_
  have hw3 := hw2.drewn
  try clear hw2
  refine c_any (n := 6) [false, false, false, false, false, false] (fun wS => (As.blk b0_1 30 [.bool false, .int .u64 0, .int .i64 0]).ok wS) (by kernel_rfl) rfl rfl ?_
  apply a_take (L' := [true, false, false, false, false, false]) 0 rfl (by kernel_rfl) (by kernel_rfl) (by kernel_rfl) rfl rfl rfl rfl rfl (hw3.ok mem0)
  ·intro wS sS
   refine l_load_agg (blk_st sS) mem0 rfl rfl Tryd.underlying30 rfl tz30 rfl (.take (.take (.take .nil))) ?_
   refine l_nil ?_
   exact e_got rfl
  apply a_take (L' := [true, true, false, false, false, false]) 1 rfl (by kernel_rfl) (by kernel_rfl) (by kernel_rfl) rfl rfl rfl rfl rfl (hw3.ok mem0)
  ·intro wS sS
   refine l_move rfl rfl rfl (l_nil ?_)
   exact e_got rfl
  apply a_take (L' := [true, true, true, false, false, false]) 2 rfl (by kernel_rfl) (by kernel_rfl) (by kernel_rfl) rfl rfl rfl rfl rfl (hw3.ok mem0)
  ·intro wS sS
   refine l_assign rfl rfl rfl (l_nil ?_)
   exact e_got rfl
  refine a_one (L' := [true, true, true, true, false, false]) 3 (by kernel_rfl) rfl rfl ?_
  refine l_store_blks hw3 .head (.zero (.zero (.zero .nil))) rfl tz30 rfl rfl (by first | (simp [Value.oneCell']; done) | (intro u hu; simp only [List.mem_cons, List.not_mem_nil, or_false] at hu; rcases hu with rfl | rfl | rfl <;> first | rfl | assumption)) (fun w4 hw4 => ?_)
  try clear hw3
  refine l_nil ?_
  refine e_any (hw4.ok mem0) ?_
  apply a_take (L' := [true, true, true, true, true, false]) 4 rfl (by kernel_rfl) (by kernel_rfl) (by kernel_rfl) rfl rfl rfl rfl rfl (hw4.ok mem0)
  ·intro wS sS
   refine l_assign rfl rfl rfl (l_nil ?_)
   exact e_got rfl
  apply a_take (L' := [true, true, true, true, true, true]) 5 rfl (by kernel_rfl) (by kernel_rfl) (by kernel_rfl) rfl rfl rfl rfl rfl (hw4.ok mem0)
  ·intro wS sS
   refine l_assign rfl rfl rfl (l_nil ?_)
   exact e_got rfl
  refine a_done (by kernel_rfl) ?_
  refine e_then ?_
  refine c_keep [4, 5, 6, 7] (.cons rfl (.cons rfl (.cons rfl (.cons rfl .nil)))) ?_
  refine c_ret ?_
  refine e_then_ret ?_
  refine e_doneN Tryd.results34 (.tmp rfl (.cell rfl (load_agg_run hw4 mem0 Tryd.underlying30 rfl tz30 (.take (.take (.take .nil)))) (.tmp rfl (.tmp rfl .nil)))) rfl ?_
  refine ⟨_, rfl, ?_⟩
  have hw5 := St.del .head hw4
  try clear hw4
  exact ⟨_, _, _, _, As.triv, As.triv, rfl, ⟨rfl, fun h => absurd h hc0⟩, ⟨_, _, _, rfl⟩, (St.triv (St.triv hw5)).grows⟩
 ·skip
  have hc02 : (clsF k b).2 = 0 := by omega
  obtain ⟨d, hk, hltS, hcl⟩ := clsF_ok hb hc02
  have hbd := d.bd
  have hms := mod_S d ⟨hb.1, hltS⟩
  have hnan : cls d b = 5 ↔ d.I < b % d.S := by unfold cls; (repeat' split) <;> omega
  have hinf : cls d b = 4 ↔ b % d.S = d.I := by unfold cls; (repeat' split) <;> omega
  refine c_skip (e_then ?_)
  refine c_keep [0, 1, 5, 8] (.cons rfl (.cons rfl (.cons rfl (.cons rfl .nil)))) ?_
  refine c_seq (c_region ?_)
  refine l_buildS rfl rfl pl52 ta52 .nil ?_
  refine l_box hw2 rfl rfl rfl (fun b4_1 w6 hw6 => ?_)
  try clear hw2
  refine l_assign rfl rfl rfl (l_nil (e_then ?_))
  refine c_keep [0, 1, 4, 5, 8] (.cons rfl (.cons rfl (.cons rfl (.cons rfl (.cons rfl .nil))))) ?_
  refine c_seq (c_seq (c_region ?_))
  have hw7 := hw6.nil 5
  try clear hw6
  refine l_move rfl rfl rfl ?_
  refine l_eql rfl rfl rfl rfl ?_
  refine l_nil (e_then ?_)
  refine c_keep [0, 1, 4, 5, 8, 24] (.cons rfl (.cons rfl (.cons rfl (.cons rfl (.cons rfl (.cons rfl .nil)))))) ?_
  first | refine c_cond rfl (fun hc1 => ?_) (fun hc1 => ?_) | refine c_condb rfl (fun hc1 => ?_) (fun hc1 => ?_)
  ·skip
   refine c_seq (c_region (l_move rfl rfl rfl ?_))
   refine v_lit hw7 rfl rfl Tryd.underlying25 ti5 rfl (.cons rfl (by first | rfl | assumption) (.cons rfl (by first | rfl | assumption) (.cons rfl (by first | rfl | assumption) .nil))) rfl rfl rfl (fun b6_1 w8 hw8 => ?_)
   try clear hw7
   refine l_mark hw8 rfl rfl Tryd.underlying25 Tryd.underlying5 rfl rfl (fun v6_2 w9 hw9 => ?_)
   try clear hw8
   have hw10 := St.frontL (l := [_]) hw9
   simp only [List.cons_append, List.nil_append] at hw10
   try clear hw9
   have hw11 := St.frontL (l := [_, _]) hw10
   simp only [List.cons_append, List.nil_append] at hw11
   try clear hw10
   refine l_call rfl rfl Tryd.func26 rfl rfl (.cons rfl (.cons rfl .nil)) (putP b4_1 (.slice none 0 0) ([]) (by first | (simp; done) | omega) v6_2 ([110, 97, 110]) (by simp) w9 (St.rows (τ := [As.blk b4_1 52 [(.slice none 0 0)], As.rb 5 (.slice none 0 0) ([])]) hw11) (St.argR (τ := [As.blk b4_1 52 [(.slice none 0 0)], As.rb 5 (.slice none 0 0) ([])]) hw11 (A := As.iv v6_2 [.int .u8 110, .int .u8 97, .int .u8 110]) (.head _) (R := fun w1 => IB w1 _ ([110, 97, 110])) (fun w1 h => h))) ?_
   rintro _ w12 ⟨v1, rfl, hX⟩
   have hw12 := hX _ _ _ _ hw11
   simp only [List.cons_append, List.nil_append] at hw12
   try clear hX hw11
   refine l_nil (e_then ?_)
   refine c_keep [4, 5] (.cons rfl (.cons rfl .nil)) ?_
   refine c_seq ?_
   have hw13 := hw12.drewn
   try clear hw12
   refine c_any (n := 6) [false, false, false, false, false, false] (fun wS => (As.blk b0_1 30 [.bool false, .int .u64 0, .int .i64 0]).ok wS) (by kernel_rfl) rfl rfl ?_
   apply a_take (L' := [true, false, false, false, false, false]) 0 rfl (by kernel_rfl) (by kernel_rfl) (by kernel_rfl) rfl rfl rfl rfl rfl (hw13.ok mem3)
   ·intro wS sS
    refine l_move rfl rfl rfl (l_nil ?_)
    exact e_got rfl
   apply a_take (L' := [true, true, false, false, false, false]) 1 rfl (by kernel_rfl) (by kernel_rfl) (by kernel_rfl) rfl rfl rfl rfl rfl (hw13.ok mem3)
   ·intro wS sS
    refine l_load_agg (blk_st sS) mem0 rfl rfl Tryd.underlying30 rfl tz30 rfl (.take (.take (.take .nil))) ?_
    refine l_nil ?_
    exact e_got rfl
   apply a_take (L' := [true, true, true, false, false, false]) 2 rfl (by kernel_rfl) (by kernel_rfl) (by kernel_rfl) rfl rfl rfl rfl rfl (hw13.ok mem3)
   ·intro wS sS
    refine l_assign rfl rfl rfl (l_nil ?_)
    exact e_got rfl
   refine a_one (L' := [true, true, true, true, false, false]) 3 (by kernel_rfl) rfl rfl ?_
   refine l_store_blks hw13 (.tail (.tail (.tail .head))) (.zero (.zero (.zero .nil))) rfl tz30 rfl rfl (by first | (simp [Value.oneCell']; done) | (intro u hu; simp only [List.mem_cons, List.not_mem_nil, or_false] at hu; rcases hu with rfl | rfl | rfl <;> first | rfl | assumption)) (fun w14 hw14 => ?_)
   try clear hw13
   refine l_nil ?_
   refine e_any (hw14.ok mem3) ?_
   apply a_take (L' := [true, true, true, true, true, false]) 4 rfl (by kernel_rfl) (by kernel_rfl) (by kernel_rfl) rfl rfl rfl rfl rfl (hw14.ok mem3)
   ·intro wS sS
    refine l_assign rfl rfl rfl (l_nil ?_)
    exact e_got rfl
   apply a_take (L' := [true, true, true, true, true, true]) 5 rfl (by kernel_rfl) (by kernel_rfl) (by kernel_rfl) rfl rfl rfl rfl rfl (hw14.ok mem3)
   ·intro wS sS
    refine l_assign rfl rfl rfl (l_nil ?_)
    exact e_got rfl
   refine a_done (by kernel_rfl) ?_
   refine e_then ?_
   refine c_keep [4, 5, 6, 7] (.cons rfl (.cons rfl (.cons rfl (.cons rfl .nil)))) ?_
   refine c_ret ?_
   refine e_then_ret ?_
   refine e_doneN Tryd.results34 (.tmp rfl (.cell rfl (load_agg_run hw14 mem3 Tryd.underlying30 rfl tz30 (.take (.take (.take .nil)))) (.tmp rfl (.tmp rfl .nil)))) rfl ?_
   refine ⟨_, rfl, ?_⟩
   have hw15 := St.front1 hw14
   try clear hw14
   have hw16 := St.front1 hw15
   try clear hw15
   have hw17 := St.del (.tail (.tail (.tail .head))) hw16
   try clear hw16
   have hw18 := St.del (.tail (.tail .head)) hw17
   try clear hw17
   exact ⟨_, _, true, 0, _, _, rfl, ⟨hc02.symm, fun _ => ⟨d, b4_1, v1, _, hk, hltS, rfl, rfl, rfl, by simp, fun _ => ⟨by rw [hcl] at hc1; omega, by unfold wdT; rw [if_pos (by rw [hcl] at hc1; omega)]⟩, fun h => by cases h⟩⟩, ⟨_, _, _, rfl⟩, hw18.grows⟩
  ·skip
   refine c_skip (e_then ?_)
   refine c_keep [0, 1, 4, 5, 8] (.cons rfl (.cons rfl (.cons rfl (.cons rfl (.cons rfl .nil))))) ?_
   refine c_seq (c_region (l_move rfl rfl rfl ?_))
   refine l_call rfl rfl Tryd.func44 rfl rfl (.cons rfl (.cons rfl .nil)) (infsK hk w6) ?_
   rintro _ w19 ⟨rfl, hG⟩
   have hw19 := hG _ _ _ _ hw7
   try clear hG hw7
   simp only [List.cons_append, List.nil_append] at hw19
   refine l_move rfl rfl rfl (l_extract rfl rfl rfl rfl (l_extract rfl rfl rfl rfl (l_assign rfl rfl rfl (l_assign rfl rfl rfl (l_nil ?_)))))
   refine e_then ?_
   refine c_keep [0, 1, 4, 5, 8, 9] (.cons rfl (.cons rfl (.cons rfl (.cons rfl (.cons rfl (.cons rfl .nil)))))) ?_
   refine c_cutk (ι := Value × List UInt8) (fun (z0 : Value × List UInt8) (w' : World) => match z0 with | ⟨vt1, t1⟩ => St w w.heap.size None' ([As.blk b4_1 52 [vt1], As.rb 5 vt1 t1, As.blk b0_1 30 [.bool false, .int .u64 0, .int .i64 0]]) w' ∧ t1 = sgT d b) (fun (z0 : Value × List UInt8) => match z0 with | ⟨vt1, t1⟩ => []) [0, 1, 4, 5, 8] (.cons rfl (.cons rfl (.cons rfl (.cons rfl (.cons rfl .nil))))) ?_ ?_
   ·skip
    refine c_seq (c_region (l_move rfl rfl rfl (l_move rfl rfl rfl ?_)))
    refine l_gtr rfl rfl rfl rfl ?_
    refine l_nil (e_then ?_)
    refine c_keep [0, 1, 4, 5, 8, 38] (.cons rfl (.cons rfl (.cons rfl (.cons rfl (.cons rfl (.cons rfl .nil)))))) ?_
    first | refine c_cond rfl (fun hc2 => ?_) (fun hc2 => ?_) | refine c_condb rfl (fun hc2 => ?_) (fun hc2 => ?_)
    ·skip
     refine c_region (l_move rfl rfl rfl ?_)
     refine v_lit hw19 rfl rfl Tryd.underlying25 ti5 rfl (.cons rfl (by first | rfl | assumption) .nil) rfl rfl rfl (fun b10_1 w20 hw20 => ?_)
     try clear hw19
     have hw21 := St.frontL (l := [_]) hw20
     simp only [List.cons_append, List.nil_append] at hw21
     try clear hw20
     have hw22 := St.frontL (l := [_, _]) hw21
     simp only [List.cons_append, List.nil_append] at hw22
     try clear hw21
     refine l_call rfl rfl Tryd.func26 rfl rfl (.cons rfl (.cons rfl .nil)) (putP b4_1 (.slice none 0 0) ([]) (by first | (simp; done) | omega) _ ([45]) (by simp) w20 (St.rows (τ := [As.blk b4_1 52 [(.slice none 0 0)], As.rb 5 (.slice none 0 0) ([])]) hw22) (St.argR (τ := [As.blk b4_1 52 [(.slice none 0 0)], As.rb 5 (.slice none 0 0) ([])]) hw22 (A := As.blk b10_1 5 [.int .u8 45]) (.head _) (R := fun w1 => IB w1 _ ([45])) (fun w1 h => blk_iv h))) ?_
     rintro _ w23 ⟨v1, rfl, hX⟩
     have hw23 := hX _ _ _ _ hw22
     simp only [List.cons_append, List.nil_append] at hw23
     try clear hX hw22
     refine l_nil ?_
     have hw24 := St.frontL (l := [_]) hw23
     simp only [List.cons_append, List.nil_append] at hw24
     try clear hw23
     have hw25 := St.frontL (l := [_]) hw24
     simp only [List.cons_append, List.nil_append] at hw25
     try clear hw24
     have hw26 := St.del (.tail (.tail .head)) hw25
     try clear hw25
     refine e_meetk (v1, [45]) ?_ (.cons rfl (.cons rfl (.cons rfl (.cons rfl (.cons rfl .nil))))) ?_
     ·exact ⟨hw26, by unfold sgT; rw [if_pos (by rw [hcl] at hc1; omega)]⟩
     ·exact .nil
    ·skip
     refine c_skip ?_
     have hw27 := St.frontL (l := [_]) hw19
     simp only [List.cons_append, List.nil_append] at hw27
     try clear hw19
     refine e_meetk ((.slice none 0 0), []) ?_ (.cons rfl (.cons rfl (.cons rfl (.cons rfl (.cons rfl .nil))))) ?_
     ·exact ⟨hw27, by unfold sgT; rw [if_neg (by rw [hcl] at hc1; omega)]⟩
     ·exact .nil
   rintro ⟨vt1, t1⟩ w28 ⟨hw28, ht1⟩
   have hl1 : t1.length ≤ 1 := by rw [ht1]; unfold sgT; split <;> simp
   refine c_seq (c_seq (c_region (l_move rfl rfl rfl ?_)))
   refine l_eql rfl rfl rfl rfl ?_
   refine l_nil (e_then ?_)
   refine c_keep [0, 1, 4, 5, 43] (.cons rfl (.cons rfl (.cons rfl (.cons rfl (.cons rfl .nil))))) ?_
   first | refine c_cond rfl (fun hc3 => ?_) (fun hc3 => ?_) | refine c_condb rfl (fun hc3 => ?_) (fun hc3 => ?_)
   ·skip
    refine c_seq (c_region (l_move rfl rfl rfl ?_))
    refine v_lit hw28 rfl rfl Tryd.underlying25 ti5 rfl (.cons rfl (by first | rfl | assumption) (.cons rfl (by first | rfl | assumption) (.cons rfl (by first | rfl | assumption) .nil))) rfl rfl rfl (fun b12_1 w29 hw29 => ?_)
    try clear hw28
    refine l_mark hw29 rfl rfl Tryd.underlying25 Tryd.underlying5 rfl rfl (fun v12_2 w30 hw30 => ?_)
    try clear hw29
    have hw31 := St.frontL (l := [_, _]) hw30
    simp only [List.cons_append, List.nil_append] at hw31
    try clear hw30
    have hw32 := St.frontL (l := [_, _]) hw31
    simp only [List.cons_append, List.nil_append] at hw32
    try clear hw31
    refine l_call rfl rfl Tryd.func26 rfl rfl (.cons rfl (.cons rfl .nil)) (putP b4_1 vt1 (t1) (by first | (simp; done) | omega) v12_2 ([105, 110, 102]) (by simp) w30 (St.rows (τ := [As.blk b4_1 52 [vt1], As.rb 5 vt1 (t1)]) hw32) (St.argR (τ := [As.blk b4_1 52 [vt1], As.rb 5 vt1 (t1)]) hw32 (A := As.iv v12_2 [.int .u8 105, .int .u8 110, .int .u8 102]) (.head _) (R := fun w1 => IB w1 _ ([105, 110, 102])) (fun w1 h => h))) ?_
    rintro _ w33 ⟨v2, rfl, hX⟩
    have hw33 := hX _ _ _ _ hw32
    simp only [List.cons_append, List.nil_append] at hw33
    try clear hX hw32
    refine l_nil (e_then ?_)
    refine c_keep [4, 5] (.cons rfl (.cons rfl .nil)) ?_
    refine c_seq ?_
    have hw34 := hw33.drewn
    try clear hw33
    refine c_any (n := 6) [false, false, false, false, false, false] (fun wS => (As.blk b0_1 30 [.bool false, .int .u64 0, .int .i64 0]).ok wS) (by kernel_rfl) rfl rfl ?_
    apply a_take (L' := [true, false, false, false, false, false]) 0 rfl (by kernel_rfl) (by kernel_rfl) (by kernel_rfl) rfl rfl rfl rfl rfl (hw34.ok mem3)
    ·intro wS sS
     refine l_move rfl rfl rfl (l_nil ?_)
     exact e_got rfl
    apply a_take (L' := [true, true, false, false, false, false]) 1 rfl (by kernel_rfl) (by kernel_rfl) (by kernel_rfl) rfl rfl rfl rfl rfl (hw34.ok mem3)
    ·intro wS sS
     refine l_load_agg (blk_st sS) mem0 rfl rfl Tryd.underlying30 rfl tz30 rfl (.take (.take (.take .nil))) ?_
     refine l_nil ?_
     exact e_got rfl
    apply a_take (L' := [true, true, true, false, false, false]) 2 rfl (by kernel_rfl) (by kernel_rfl) (by kernel_rfl) rfl rfl rfl rfl rfl (hw34.ok mem3)
    ·intro wS sS
     refine l_assign rfl rfl rfl (l_nil ?_)
     exact e_got rfl
    refine a_one (L' := [true, true, true, true, false, false]) 3 (by kernel_rfl) rfl rfl ?_
    refine l_store_blks hw34 (.tail (.tail (.tail .head))) (.zero (.zero (.zero .nil))) rfl tz30 rfl rfl (by first | (simp [Value.oneCell']; done) | (intro u hu; simp only [List.mem_cons, List.not_mem_nil, or_false] at hu; rcases hu with rfl | rfl | rfl <;> first | rfl | assumption)) (fun w35 hw35 => ?_)
    try clear hw34
    refine l_nil ?_
    refine e_any (hw35.ok mem3) ?_
    apply a_take (L' := [true, true, true, true, true, false]) 4 rfl (by kernel_rfl) (by kernel_rfl) (by kernel_rfl) rfl rfl rfl rfl rfl (hw35.ok mem3)
    ·intro wS sS
     refine l_assign rfl rfl rfl (l_nil ?_)
     exact e_got rfl
    apply a_take (L' := [true, true, true, true, true, true]) 5 rfl (by kernel_rfl) (by kernel_rfl) (by kernel_rfl) rfl rfl rfl rfl rfl (hw35.ok mem3)
    ·intro wS sS
     refine l_assign rfl rfl rfl (l_nil ?_)
     exact e_got rfl
    refine a_done (by kernel_rfl) ?_
    refine e_then ?_
    refine c_keep [4, 5, 6, 7] (.cons rfl (.cons rfl (.cons rfl (.cons rfl .nil)))) ?_
    refine c_ret ?_
    refine e_then_ret ?_
    refine e_doneN Tryd.results34 (.tmp rfl (.cell rfl (load_agg_run hw35 mem3 Tryd.underlying30 rfl tz30 (.take (.take (.take .nil)))) (.tmp rfl (.tmp rfl .nil)))) rfl ?_
    refine ⟨_, rfl, ?_⟩
    have hw36 := St.front1 hw35
    try clear hw35
    have hw37 := St.front1 hw36
    try clear hw36
    have hw38 := St.del (.tail (.tail (.tail .head))) hw37
    try clear hw37
    have hw39 := St.del (.tail (.tail .head)) hw38
    try clear hw38
    exact ⟨_, _, true, 0, _, _, rfl, ⟨hc02.symm, fun _ => ⟨d, b4_1, v2, _, hk, hltS, rfl, rfl, rfl, by first | (simp; done) | (simp; omega), fun _ => ⟨by rw [hcl] at hc3; omega, by unfold wdT; rw [hcl] at hc1 hc3; rw [if_neg (by omega), if_pos (by omega), ht1]⟩, fun h => by cases h⟩⟩, ⟨_, _, _, rfl⟩, hw39.grows⟩
   ·skip
    refine c_skip (e_then ?_)
    refine c_keep [0, 1, 4, 5] (.cons rfl (.cons rfl (.cons rfl (.cons rfl .nil)))) ?_
    refine c_seq (c_region ?_)
    have hfin : b % d.S < d.I := by rw [hcl] at hc1 hc3; omega
    have hspl := spl_any hk ⟨hb.1, hltS⟩ hfin
    refine l_move rfl rfl rfl (l_move rfl rfl rfl ?_)
    refine l_call rfl rfl Tryd.func8 rfl rfl (.cons rfl (.cons rfl .nil)) (splitB k b hb w28) ?_
    rintro _ w40 ⟨rfl, hG⟩
    have hw40 := hG _ _ _ _ hw28
    try clear hG hw28
    simp only [List.cons_append, List.nil_append] at hw40
    rw [hspl]
    refine l_move rfl rfl rfl (l_extract rfl rfl rfl rfl (l_extract rfl rfl rfl rfl ?_))
    refine l_store_blks hw40 (.tail (.tail .head)) (.zero (.zero (.zero .nil))) rfl tz30 rfl rfl (by first | (simp [Value.oneCell']; done) | (intro u hu; simp only [List.mem_cons, List.not_mem_nil, or_false] at hu; rcases hu with rfl | rfl | rfl <;> first | rfl | assumption)) (fun w41 hw41 => ?_)
    try clear hw40
    refine l_assign rfl rfl rfl (l_nil (e_then ?_))
    refine c_keep [4, 5, 7] (.cons rfl (.cons rfl (.cons rfl .nil))) ?_
    refine c_seq ?_
    have hw42 := hw41.drewn
    try clear hw41
    refine c_any (n := 7) [false, false, false, false, false, false, false] (fun wS => (As.blk b0_1 30 [.bool (decide (d.S ≤ b)), .int .u64 (splM d (b % d.S)), .int .i64 (splE d (b % d.S))]).ok wS) (by kernel_rfl) rfl rfl ?_
    apply a_take (L' := [true, false, false, false, false, false, false]) 0 rfl (by kernel_rfl) (by kernel_rfl) (by kernel_rfl) rfl rfl rfl rfl rfl (hw42.ok mem2)
    ·intro wS sS
     refine l_move rfl rfl rfl (l_nil ?_)
     exact e_got rfl
    apply a_take (L' := [true, true, false, false, false, false, false]) 1 rfl (by kernel_rfl) (by kernel_rfl) (by kernel_rfl) rfl rfl rfl rfl rfl (hw42.ok mem2)
    ·intro wS sS
     refine l_load_agg (blk_st sS) mem0 rfl rfl Tryd.underlying30 rfl tz30 rfl (.take (.take (.take .nil))) ?_
     refine l_nil ?_
     exact e_got rfl
    apply a_take (L' := [true, true, true, false, false, false, false]) 2 rfl (by kernel_rfl) (by kernel_rfl) (by kernel_rfl) rfl rfl rfl rfl rfl (hw42.ok mem2)
    ·intro wS sS
     refine l_move rfl rfl rfl (l_nil ?_)
     exact e_got rfl
    apply a_take (L' := [true, true, true, true, false, false, false]) 3 rfl (by kernel_rfl) (by kernel_rfl) (by kernel_rfl) rfl rfl rfl rfl rfl (hw42.ok mem2)
    ·intro wS sS
     refine l_assign rfl rfl rfl (l_nil ?_)
     exact e_got rfl
    refine a_one (L' := [true, true, true, true, true, false, false]) 4 (by kernel_rfl) rfl rfl ?_
    refine l_store_blks hw42 (.tail (.tail .head)) (.zero (.zero (.zero .nil))) rfl tz30 rfl rfl (by first | (simp [Value.oneCell']; done) | (intro u hu; simp only [List.mem_cons, List.not_mem_nil, or_false] at hu; rcases hu with rfl | rfl | rfl <;> first | rfl | assumption)) (fun w43 hw43 => ?_)
    try clear hw42
    refine l_nil ?_
    refine e_any (hw43.ok mem2) ?_
    apply a_take (L' := [true, true, true, true, true, true, false]) 5 rfl (by kernel_rfl) (by kernel_rfl) (by kernel_rfl) rfl rfl rfl rfl rfl (hw43.ok mem2)
    ·intro wS sS
     refine l_assign rfl rfl rfl (l_nil ?_)
     exact e_got rfl
    apply a_take (L' := [true, true, true, true, true, true, true]) 6 rfl (by kernel_rfl) (by kernel_rfl) (by kernel_rfl) rfl rfl rfl rfl rfl (hw43.ok mem2)
    ·intro wS sS
     refine l_assign rfl rfl rfl (l_nil ?_)
     exact e_got rfl
    refine a_done (by kernel_rfl) ?_
    refine e_then ?_
    refine c_keep [4, 5, 6, 7] (.cons rfl (.cons rfl (.cons rfl (.cons rfl .nil)))) ?_
    refine c_ret ?_
    refine e_doneN Tryd.results34 (.tmp rfl (.cell rfl (load_agg_run hw43 mem2 Tryd.underlying30 rfl tz30 (.take (.take (.take .nil)))) (.tmp rfl (.tmp rfl .nil)))) rfl ?_
    refine ⟨_, rfl, ?_⟩
    have hw44 := St.front1 hw43
    try clear hw43
    have hw45 := St.front1 hw44
    try clear hw44
    have hw46 := St.del (.tail (.tail .head)) hw45
    try clear hw45
    exact ⟨_, _, false, 0, _, _, rfl, ⟨hc02.symm, fun _ => ⟨d, b4_1, vt1, _, hk, hltS, rfl, rfl, rfl, by omega, (fun h => by cases h), fun _ => ⟨hfin, ht1, rfl⟩⟩⟩, ⟨_, _, _, rfl⟩, hw46.grows⟩
def askE (k b n : Int) : Int := if (clsF k b).2 = 0 then (if n < 0 ∨ 40 < n then 110 else 0) else (clsF k b).2
def AskR (k b n : Int) (p R : Value) (over : Bool) (e : Int) (A1 A2 : As) : Prop := e = askE k b n ∧ (e = 0 → 0 ≤ n ∧ n ≤ 40 ∧ BegR k b p R over 0 A1 A2)
theorem begunQ (k b : Int) (hb : 0 ≤ b ∧ b ≤ 18446744073709551615) (w : World) : CallsV P 34 [.int .i64 k, .int .u64 b] w fun r w' => ∃ p n1 n2 n3 over e A1 A2, r = .tuple #[p, .agg #[.bool n1, .int .u64 n2, .int .i64 n3], .bool over, .int .i64 e] ∧ BegR k b p (.agg #[.bool n1, .int .u64 n2, .int .i64 n3]) over e A1 A2 ∧ Grow w w' [A1, A2] := by
 refine (begunP k b hb w).mono ?_
 rintro r w' ⟨p, R, over, e, A1, A2, rfl, hB, ⟨n1, n2, n3, rfl⟩, hG⟩
 exact ⟨_, _, _, _, _, _, _, _, rfl, hB, hG⟩
theorem askedP (k b : Int) (hb : 0 ≤ b ∧ b ≤ 18446744073709551615) (n : Int) (hn : -9223372036854775808 ≤ n ∧ n ≤ 9223372036854775807) (w : World) :
  CallsV P 23 [.int .i64 k, .int .u64 b, .int .i64 n] w fun r w' => ∃ p n1 n2 n3 over e A1 A2, r = .tuple #[p, .agg #[.bool n1, .int .u64 n2, .int .i64 n3], .bool over, .int .i64 e] ∧ AskR k b n p (.agg #[.bool n1, .int .u64 n2, .int .i64 n3]) over e A1 A2 ∧ Grow w w' [A1, A2] := by
 refine enterW Tryd.func23 rfl Tryd.ntmps23 rfl ?_
 have hw0 := St.start w
 refine c_seq (c_region (l_assign rfl rfl rfl ?_))
 refine l_alloc hw0 ta30 rfl rfl (fun b0_1 w1 hw1 => ?_)
 try clear hw0
 refine l_assign rfl rfl rfl (l_assign rfl rfl rfl (l_nil (e_then ?_)))
 refine c_keep [0, 1, 2, 7] (.cons rfl (.cons rfl (.cons rfl (.cons rfl .nil)))) ?_
 refine c_seq (c_region (l_move rfl rfl rfl (l_move rfl rfl rfl ?_)))
 refine l_call rfl rfl Tryd.func34 rfl rfl (.cons rfl (.cons rfl .nil)) (begunQ k b hb w1) ?_
 rintro _ w2 ⟨p, n1, n2, n3, over, e, A1, A2, rfl, hB, hG⟩
 have hw2 := hG _ _ _ _ hw1
 try clear hG hw1
 simp only [List.cons_append, List.nil_append] at hw2
 refine l_move rfl rfl rfl (l_extract rfl rfl rfl rfl (l_extract rfl rfl rfl rfl (l_extract rfl rfl rfl rfl (l_extract rfl rfl rfl rfl (l_assign rfl rfl rfl ?_)))))
 refine l_store_blks hw2 (.tail (.tail .head)) (.zero (.zero (.zero .nil))) rfl tz30 rfl rfl (by first | (simp [Value.oneCell']; done) | (intro u hu; simp only [List.mem_cons, List.not_mem_nil, or_false] at hu; rcases hu with rfl | rfl | rfl <;> first | rfl | assumption)) (fun w3 hw3 => ?_)
 try clear hw2
 refine l_assign rfl rfl rfl (l_assign rfl rfl rfl (l_nil (e_then ?_)))
 refine c_keep [2, 6, 7, 8, 9] (.cons rfl (.cons rfl (.cons rfl (.cons rfl (.cons rfl .nil))))) ?_
 refine c_cutk (ι := Int) (fun (e2 : Int) (w' : World) => St w w.heap.size None' ([A1, A2, As.blk b0_1 30 [.bool n1, .int .u64 n2, .int .i64 n3]]) w' ∧ AskR k b n p (.agg #[.bool n1, .int .u64 n2, .int .i64 n3]) over e2 A1 A2) (fun (e2 : Int) => [(9, .int .i64 e2)]) [6, 7, 8] (.cons rfl (.cons rfl (.cons rfl .nil))) ?_ ?_
 ·skip
  refine c_seq (c_region (l_move rfl rfl rfl ?_))
  refine l_eql rfl rfl rfl rfl ?_
  refine l_move rfl rfl rfl ?_
  apply l_and (q := n < 0 ∨ 40 < n) 6 [6, 7, 8, 9] rfl rfl (.cons rfl (.cons rfl (.cons rfl (.cons rfl (.cons rfl .nil))))) rfl rfl (fun _ => rfl) rfl rfl rfl
  ·intro hg2_3
   refine l_move rfl rfl rfl ?_
   refine l_lss rfl rfl rfl rfl ?_
   refine l_move rfl rfl rfl ?_
   apply l_or (q := 40 < n) 2 [6, 7, 8, 9, 20] rfl rfl (.cons rfl (.cons rfl (.cons rfl (.cons rfl (.cons rfl (.cons rfl .nil)))))) rfl rfl (fun _ => rfl) rfl rfl rfl
   ·intro hg2_6
    refine l_move rfl rfl rfl ?_
    refine l_gtr rfl rfl rfl rfl ?_
    refine l_nil ?_
    exact e_stays rfl (.cons rfl (congrArg Value.bool (decide_eq_false hg2_6).symm) (.cons rfl rfl (.cons rfl rfl (.cons rfl rfl (.cons rfl rfl (.cons rfl rfl .nil))))))
    all_goals infer_instance
   refine l_nil ?_
   exact e_stays rfl (.cons rfl (congrArg Value.bool (decide_eq_true hg2_3).symm) (.cons rfl rfl (.cons rfl rfl (.cons rfl rfl (.cons rfl rfl .nil)))))
   all_goals infer_instance
  refine l_nil (e_then ?_)
  refine c_keep [6, 7, 8, 9, 27] (.cons rfl (.cons rfl (.cons rfl (.cons rfl (.cons rfl .nil))))) ?_
  first | refine c_cond rfl (fun hc0 => ?_) (fun hc0 => ?_) | refine c_condb rfl (fun hc0 => ?_) (fun hc0 => ?_)
  ·skip
   refine c_region (l_assign rfl rfl rfl (l_nil ?_))
   refine e_meetk (110) ?_ (.cons rfl (.cons rfl (.cons rfl .nil))) ?_
   ·exact ⟨hw3, ⟨by unfold askE; rw [← hB.1, if_pos hc0.1, if_pos hc0.2], fun h => absurd h (by decide)⟩⟩
   ·exact (.cons rfl (by first | rfl | (refine congrArg (Value.int _) ?_; omega)) .nil)
  ·skip
   refine c_skip ?_
   refine e_meetk (e) ?_ (.cons rfl (.cons rfl (.cons rfl .nil))) ?_
   ·refine ⟨hw3, ⟨?_, fun h => ⟨by omega, by omega, h ▸ hB⟩⟩⟩
    unfold askE
    rw [← hB.1]
    split
    ·rename_i h
     rw [if_neg (fun h2 => hc0 ⟨h, h2⟩)]
     exact h
    ·rfl
   ·exact (.cons rfl (by first | rfl | (refine congrArg (Value.int _) ?_; omega)) .nil)
 rintro e2 w4 ⟨hw4, hA⟩
 show RunC P _ _ _ (_ :: _) _
 refine c_seq ?_
 have hw5 := hw4.drewn
 try clear hw4
 refine c_any (n := 8) [false, false, false, false, false, false, false, false] (fun wS => (As.blk b0_1 30 [.bool n1, .int .u64 n2, .int .i64 n3]).ok wS) (by kernel_rfl) rfl rfl ?_
 apply a_take (L' := [true, false, false, false, false, false, false, false]) 0 rfl (by kernel_rfl) (by kernel_rfl) (by kernel_rfl) rfl rfl rfl rfl rfl (hw5.ok mem2)
 ·intro wS sS
  refine l_move rfl rfl rfl (l_nil ?_)
  exact e_got rfl
 apply a_take (L' := [true, true, false, false, false, false, false, false]) 1 rfl (by kernel_rfl) (by kernel_rfl) (by kernel_rfl) rfl rfl rfl rfl rfl (hw5.ok mem2)
 ·intro wS sS
  refine l_load_agg (blk_st sS) mem0 rfl rfl Tryd.underlying30 rfl tz30 rfl (.take (.take (.take .nil))) ?_
  refine l_nil ?_
  exact e_got rfl
 apply a_take (L' := [true, true, true, false, false, false, false, false]) 2 rfl (by kernel_rfl) (by kernel_rfl) (by kernel_rfl) rfl rfl rfl rfl rfl (hw5.ok mem2)
 ·intro wS sS
  refine l_move rfl rfl rfl (l_nil ?_)
  exact e_got rfl
 apply a_take (L' := [true, true, true, true, false, false, false, false]) 3 rfl (by kernel_rfl) (by kernel_rfl) (by kernel_rfl) rfl rfl rfl rfl rfl (hw5.ok mem2)
 ·intro wS sS
  refine l_move rfl rfl rfl (l_nil ?_)
  exact e_got rfl
 apply a_take (L' := [true, true, true, true, true, false, false, false]) 4 rfl (by kernel_rfl) (by kernel_rfl) (by kernel_rfl) rfl rfl rfl rfl rfl (hw5.ok mem2)
 ·intro wS sS
  refine l_assign rfl rfl rfl (l_nil ?_)
  exact e_got rfl
 refine a_one (L' := [true, true, true, true, true, true, false, false]) 5 (by kernel_rfl) rfl rfl ?_
 refine l_store_blks hw5 (.tail (.tail .head)) (.zero (.zero (.zero .nil))) rfl tz30 rfl rfl (by first | (simp [Value.oneCell']; done) | (intro u hu; simp only [List.mem_cons, List.not_mem_nil, or_false] at hu; rcases hu with rfl | rfl | rfl <;> first | rfl | assumption)) (fun w6 hw6 => ?_)
 try clear hw5
 refine l_nil ?_
 refine e_any (hw6.ok mem2) ?_
 apply a_take (L' := [true, true, true, true, true, true, true, false]) 6 rfl (by kernel_rfl) (by kernel_rfl) (by kernel_rfl) rfl rfl rfl rfl rfl (hw6.ok mem2)
 ·intro wS sS
  refine l_assign rfl rfl rfl (l_nil ?_)
  exact e_got rfl
 apply a_take (L' := [true, true, true, true, true, true, true, true]) 7 rfl (by kernel_rfl) (by kernel_rfl) (by kernel_rfl) rfl rfl rfl rfl rfl (hw6.ok mem2)
 ·intro wS sS
  refine l_assign rfl rfl rfl (l_nil ?_)
  exact e_got rfl
 refine a_done (by kernel_rfl) ?_
 refine e_then ?_
 refine c_keep [6, 7, 8, 9] (.cons rfl (.cons rfl (.cons rfl (.cons rfl .nil)))) ?_
 refine c_ret ?_
 refine e_doneN Tryd.results23 (.tmp rfl (.cell rfl (load_agg_run hw6 mem2 Tryd.underlying30 rfl tz30 (.take (.take (.take .nil)))) (.tmp rfl (.tmp rfl .nil)))) rfl ?_
 refine ⟨_, rfl, ?_⟩
 have hw7 := St.del (.tail (.tail .head)) hw6
 try clear hw6
 exact ⟨_, _, _, _, _, _, _, _, rfl, hA, hw7.grows⟩
theorem wdT_over {d : Kd} {b : Int} {x y : List UInt8} (h : d.I ≤ b % d.S) : wdT d b x = wdT d b y := by
 unfold wdT
 split
 ·rfl
 ·rw [if_pos (by omega), if_pos (by omega)]
theorem wdT_fin {d : Kd} {b : Int} {x : List UInt8} (h : b % d.S < d.I) : wdT d b x = sgT d b ++ x := by
 unfold wdT
 rw [if_neg (by omega), if_neg (by omega)]
theorem p8_10 : ∀ k : Nat, (8 : Int) ^ k ≤ 10 ^ k
 | 0 => by simp
 | k + 1 => by
  have := p8_10 k
  have := p10 k
  rw [Int.pow_succ, Int.pow_succ]
  omega
theorem rn_len {d : Kd} {b e : Int} (hb : 0 ≤ b ∧ b < d.I) (he : -420 ≤ e ∧ e ≤ 420) : 0 ≤ rnE (fN (fX d b) (-e)) (fD (fY d b) (-e)) ∧ (dtx (rnE (fN (fX d b) (-e)) (fD (fY d b) (-e)))).length ≤ 967 := by
 have hxy := fX_blen hb
 have hD0 := fD_pos (fY_pos d b) (-e)
 have hN0 := fN_nonneg hxy.1 (-e)
 have hNb := fN_blen hxy.1 (e := -e) (by omega) (by omega)
 have hQ0 : 0 ≤ fN (fX d b) (-e) / fD (fY d b) (-e) := Int.ediv_nonneg hN0 (Int.le_of_lt hD0)
 have hQ1 := Int.ediv_le_self (fD (fY d b) (-e)) hN0
 have h1 := (Ma.blen_le_iff hN0 2881).1 hNb
 have h2 : (2 : Int) ^ 2881 ≤ 2 ^ 2900 := Ma.pow_mono (by omega) (by omega)
 have h3 : (2 : Int) ^ 2901 = 8 ^ 967 := by rw [show (8 : Int) = 2 ^ 3 from rfl, ← Int.pow_mul]
 have h4 : (2 : Int) ^ 2901 = 2 ^ 2900 * 2 := Int.pow_succ ..
 have h5 := p8_10 967
 have h6 := p2_ 2900
 have hb := rnE_bd (N := fN (fX d b) (-e)) (D := fD (fY d b) (-e))
 refine ⟨by omega, ?_⟩
 rcases Int.lt_or_eq_of_le (show 0 ≤ rnE (fN (fX d b) (-e)) (fD (fY d b) (-e)) by omega) with h | h
 ·rw [dl_dtx h]
  exact dl_le (by omega) (by omega)
 ·rw [← h]
  decide
def FixT (k b n e : Int) (t : List UInt8) : Prop := e = askE k b n ∧ (e ≠ 0 → t = []) ∧ (e = 0 → ∃ d, kd k = some d ∧ b < 2 * d.S ∧ t = wdT d b (fxT (rnE (fN (fX d (b % d.S)) (-n)) (fD (fY d (b % d.S)) (-n))) n))
theorem FixT.unique {k b n e e' : Int} {t t' : List UInt8} (h : FixT k b n e t) (g : FixT k b n e' t') : e = e' ∧ t = t' := by
 have he : e = e' := h.1.trans g.1.symm
 subst he
 refine ⟨rfl, ?_⟩
 by_cases h0 : e = 0
 ·obtain ⟨d, hd, _, h1⟩ := h.2.2 h0
  obtain ⟨d', hd', _, g1⟩ := g.2.2 h0
  rw [hd] at hd'
  cases hd'
  rw [h1, g1]
 ·rw [h.2.1 h0, g.2.1 h0]
theorem FixedP (k b : Int) (hb : 0 ≤ b ∧ b ≤ 18446744073709551615) (n : Int) (hn : -9223372036854775808 ≤ n ∧ n ≤ 9223372036854775807) (w : World) :
  CallsV P 7 [.int .i64 k, .int .u64 b, .int .i64 n] w fun r w' => ∃ v e t, r = .tuple #[v, .int .i64 e] ∧ FixT k b n e t ∧ Grow w w' [As.rb 5 v t] := by
 refine enterW Tryd.func7 rfl Tryd.ntmps7 rfl ?_
 have hw0 := St.start w
 refine c_seq (c_region (l_assign rfl rfl rfl (l_assign rfl rfl rfl (l_nil (e_then ?_)))))
 refine c_keep [0, 1, 2] (.cons rfl (.cons rfl (.cons rfl .nil))) ?_
 refine c_seq (c_region (l_move rfl rfl rfl (l_move rfl rfl rfl (l_move rfl rfl rfl ?_))))
 refine l_call rfl rfl Tryd.func23 rfl rfl (.cons rfl (.cons rfl (.cons rfl .nil))) (askedP k b hb n hn w) ?_
 rintro _ w1 ⟨p, n1, n2, n3, over, e, A1, A2, rfl, hA, hG⟩
 have hw1 := hG _ _ _ _ hw0
 try clear hG hw0
 simp only [List.cons_append, List.nil_append] at hw1
 refine l_move rfl rfl rfl (l_extract rfl rfl rfl rfl (l_extract rfl rfl rfl rfl (l_extract rfl rfl rfl rfl (l_extract rfl rfl rfl rfl ?_))))
 refine l_alloc hw1 ta30 rfl rfl (fun b1_9 w2 hw2 => ?_)
 try clear hw1
 refine l_assign rfl rfl rfl ?_
 refine l_store_blks hw2 .head (.zero (.zero (.zero .nil))) rfl tz30 rfl rfl (by first | (simp [Value.oneCell']; done) | (intro u hu; simp only [List.mem_cons, List.not_mem_nil, or_false] at hu; rcases hu with rfl | rfl | rfl <;> first | rfl | assumption)) (fun w3 hw3 => ?_)
 try clear hw2
 refine l_assign rfl rfl rfl (l_assign rfl rfl rfl (l_nil (e_then ?_)))
 refine c_keep [2, 8, 9, 10, 11] (.cons rfl (.cons rfl (.cons rfl (.cons rfl (.cons rfl .nil))))) ?_
 refine c_seq (c_block (c_seq (c_region (l_move rfl rfl rfl ?_))))
 refine l_neq rfl rfl rfl rfl ?_
 refine l_assign rfl rfl rfl (l_nil (e_then ?_))
 refine c_keep [2, 8, 9, 10, 11, 24] (.cons rfl (.cons rfl (.cons rfl (.cons rfl (.cons rfl (.cons rfl .nil)))))) ?_
 first | refine c_cond rfl (fun hc0 => ?_) (fun hc0 => ?_) | refine c_condb rfl (fun hc0 => ?_) (fun hc0 => ?_)
 ·skip
  refine c_seq (c_region (l_move rfl rfl rfl (l_assign rfl rfl rfl (l_assign rfl rfl rfl (l_nil ?_)))))
  refine e_then ?_
  refine c_keep [6, 7] (.cons rfl (.cons rfl .nil)) ?_
  refine c_ret ?_
  refine e_blk_ret ?_
  refine e_then_ret ?_
  refine e_done2 Tryd.results7 rfl rfl ?_
  refine ⟨_, rfl, ?_⟩
  have hw4 := St.front2 hw3
  try clear hw3
  have hw5 := St.del (.tail (.tail .head)) hw4
  try clear hw4
  have hw6 := St.del (.tail .head) hw5
  try clear hw5
  have hw7 := St.del .head hw6
  try clear hw6
  exact ⟨_, e, [], rfl, ⟨hA.1, fun _ => rfl, fun h => absurd h hc0⟩, (hw7.nil 5).grows⟩
 ·skip
  have he0 : e = 0 := by omega
  obtain ⟨hn0, hn40, hB⟩ := hA.2 he0
  obtain ⟨d, lb, vt, t, hk, hltS, rfl, rfl, rfl, htl, hov, hnov⟩ := hB.2 rfl
  have hbd := d.bd
  have hms := mod_S d ⟨hb.1, hltS⟩
  refine c_seq (c_region (l_move rfl rfl rfl (l_assign rfl rfl rfl (l_nil (e_then ?_)))))
  refine c_keep [2, 8, 9, 28] (.cons rfl (.cons rfl (.cons rfl (.cons rfl .nil)))) ?_
  first | refine c_cond rfl (fun hc1 => ?_) (fun hc1 => ?_) | refine c_condb rfl (fun hc1 => ?_) (fun hc1 => ?_)
  ·skip
   refine c_seq (c_region (l_move rfl rfl rfl (l_nilCheck rfl rfl rfl (l_field fo52_0 rfl rfl rfl ?_))))
   refine l_load_blk hw3 mem1 rfl rfl Tryd.underlying25 rfl rfl rfl ?_
   refine l_assign rfl rfl rfl (l_assign rfl rfl rfl (l_nil (e_then ?_)))
   refine c_keep [6, 7] (.cons rfl (.cons rfl .nil)) ?_
   refine c_ret ?_
   refine e_blk_ret ?_
   refine e_then_ret ?_
   refine e_done2 Tryd.results7 rfl rfl ?_
   refine ⟨_, rfl, ?_⟩
   have hw8 := St.front2 hw3
   try clear hw3
   have hw9 := St.del (.tail (.tail .head)) hw8
   try clear hw8
   have hw10 := St.del (.tail .head) hw9
   try clear hw9
   exact ⟨_, 0, _, rfl, ⟨he0 ▸ hA.1, fun h => absurd rfl h, fun _ => ⟨d, hk, hltS, by rw [(hov hc1).2]; exact wdT_over (hov hc1).1⟩⟩, hw10.grows⟩
  ·skip
   obtain ⟨hfin, htS, hR⟩ := hnov (by simpa using hc1)
   obtain ⟨rfl, rfl, rfl⟩ : n1 = decide (d.S ≤ b) ∧ n2 = splM d (b % d.S) ∧ n3 = splE d (b % d.S) := by simpa using hR
   have hrl := rn_len (d := d) (b := b % d.S) (e := n) (by omega) (by omega)
   refine c_skip ?_
   refine e_blk ?_
   refine e_then ?_
   refine c_keep [2, 8, 9] (.cons rfl (.cons rfl (.cons rfl .nil))) ?_
   refine c_seq (c_region ?_)
   refine l_load_agg hw3 mem0 rfl rfl Tryd.underlying30 rfl tz30 rfl (.take (.take (.take .nil))) ?_
   refine l_move rfl rfl rfl ?_
   refine l_call rfl rfl Tryd.func24 rfl rfl (.cons rfl (.cons rfl .nil)) (roundedP (decide (d.S ≤ b)) d (b % d.S) n (by omega) (by omega) w3) ?_
   rintro vd w11 ⟨_, rfl, hG⟩
   have hw11 := hG _ _ _ _ hw3
   try clear hG hw3
   simp only [List.cons_append, List.nil_append] at hw11
   refine l_assign rfl rfl rfl (l_nil (e_then ?_))
   refine c_keep [2, 8, 12] (.cons rfl (.cons rfl (.cons rfl .nil))) ?_
   refine c_cutk (ι := Value × List UInt8) (fun (z0 : Value × List UInt8) (w' : World) => match z0 with | ⟨vd2, ds⟩ => St w w.heap.size None' ([As.blk lb 52 [vt], As.rb 5 vt t, As.iv vd2 (bys ds)]) w' ∧ ds = padT (dtx (rnE (fN (fX d (b % d.S)) (-n)) (fD (fY d (b % d.S)) (-n)))) n ∧ n < (ds.length : Int) ∧ ds.length ≤ 1000) (fun (z0 : Value × List UInt8) => match z0 with | ⟨vd2, ds⟩ => [(12, vd2)]) [2, 8] (.cons rfl (.cons rfl .nil)) ?_ ?_
   ·skip
    refine c_seq (c_region (l_move rfl rfl rfl ?_))
    refine l_add rfl rfl rfl rfl (w_i64 (by omega)) ?_
    refine l_move rfl rfl rfl ?_
    refine v_lenb rfl rfl Tryd.underlying25 rfl (by first | exact hw11.ii mem0 | exact hw11.ibl mem1 | exact hw11.ibl mem2 | exact hw11.io mem3 | assumption) ?_
    refine l_sub rfl rfl rfl rfl (w_i64 (by omega)) ?_
    refine l_assign rfl rfl rfl (l_nil (e_then ?_))
    refine c_keep [2, 8, 12, 13] (.cons rfl (.cons rfl (.cons rfl (.cons rfl .nil)))) ?_
    refine c_seq (c_region (l_move rfl rfl rfl ?_))
    refine l_gtr rfl rfl rfl rfl ?_
    refine l_nil (e_then ?_)
    refine c_keep [2, 8, 12, 13, 43] (.cons rfl (.cons rfl (.cons rfl (.cons rfl (.cons rfl .nil))))) ?_
    first | refine c_cond rfl (fun hc2 => ?_) (fun hc2 => ?_) | refine c_condb rfl (fun hc2 => ?_) (fun hc2 => ?_)
    ·skip
     refine c_seq (c_region ?_)
     refine l_buildS rfl rfl pl52 ta52 .nil ?_
     refine l_box hw11 rfl rfl rfl (fun b9_1 w12 hw12 => ?_)
     try clear hw11
     refine l_assign rfl rfl rfl (l_nil (e_then ?_))
     refine c_keep [2, 8, 12, 13, 14] (.cons rfl (.cons rfl (.cons rfl (.cons rfl (.cons rfl .nil))))) ?_
     refine c_seq (c_region ?_)
     have hw13 := hw12.nil 5
     try clear hw12
     refine l_move rfl rfl rfl (l_move rfl rfl rfl ?_)
     have hw14 := St.frontL (l := [_]) hw13
     simp only [List.cons_append, List.nil_append] at hw14
     try clear hw13
     refine l_call rfl rfl Tryd.func25 rfl rfl (.cons rfl (.cons rfl .nil)) (noughtsP b9_1 (.slice none 0 0) [] (by simp) (n + 1 - ((dtx (rnE (fN (fX d (b % d.S)) (-n)) (fD (fY d (b % d.S)) (-n)))).length : Int)) (by omega) w12 (St.rows (τ := [As.blk b9_1 52 [.slice none 0 0], As.rb 5 (.slice none 0 0) []]) hw14)) ?_
     rintro _ w15 ⟨v1, rfl, hX⟩
     have hw15 := hX _ _ _ _ hw14
     simp only [List.cons_append, List.nil_append] at hw15
     try clear hX hw14
     refine l_nil (e_then ?_)
     refine c_keep [2, 8, 12, 14] (.cons rfl (.cons rfl (.cons rfl (.cons rfl .nil)))) ?_
     refine c_seq (c_region (l_move rfl rfl rfl (l_move rfl rfl rfl ?_)))
     have hw16 := St.frontL (l := [_]) hw15
     simp only [List.cons_append, List.nil_append] at hw16
     try clear hw15
     have hw17 := St.frontL (l := [_]) hw16
     simp only [List.cons_append, List.nil_append] at hw17
     try clear hw16
     refine l_call rfl rfl Tryd.func26 rfl rfl (.cons rfl (.cons rfl .nil)) (putP b9_1 v1 (zsT (n + 1 - ((dtx (rnE (fN (fX d (b % d.S)) (-n)) (fD (fY d (b % d.S)) (-n)))).length : Int))) (by unfold zsT; rw [List.length_replicate]; omega) vd (dtx (rnE (fN (fX d (b % d.S)) (-n)) (fD (fY d (b % d.S)) (-n)))) (by omega) w15 (St.rows (τ := [As.blk b9_1 52 [v1], As.rb 5 v1 (zsT (n + 1 - ((dtx (rnE (fN (fX d (b % d.S)) (-n)) (fD (fY d (b % d.S)) (-n)))).length : Int)))]) hw17) (St.argR (τ := [As.blk b9_1 52 [v1], As.rb 5 v1 (zsT (n + 1 - ((dtx (rnE (fN (fX d (b % d.S)) (-n)) (fD (fY d (b % d.S)) (-n)))).length : Int)))]) hw17 (A := As.iv vd (bys (dtx (rnE (fN (fX d (b % d.S)) (-n)) (fD (fY d (b % d.S)) (-n)))))) (.head _) (R := fun w1 => IB w1 vd (dtx (rnE (fN (fX d (b % d.S)) (-n)) (fD (fY d (b % d.S)) (-n))))) (fun w1 h => h))) ?_
     rintro _ w18 ⟨v2, rfl, hX⟩
     have hw18 := hX _ _ _ _ hw17
     simp only [List.cons_append, List.nil_append] at hw18
     try clear hX hw17
     refine l_nil (e_then ?_)
     refine c_keep [2, 8, 14] (.cons rfl (.cons rfl (.cons rfl .nil))) ?_
     refine c_region (l_move rfl rfl rfl (l_nilCheck rfl rfl rfl (l_field fo52_0 rfl rfl rfl ?_)))
     refine l_load_blk hw18 mem0 rfl rfl Tryd.underlying25 rfl rfl rfl ?_
     refine l_assign rfl rfl rfl (l_nil ?_)
     have hw19 := St.frontL (l := [_, _, _, _, _]) hw18
     simp only [List.cons_append, List.nil_append] at hw19
     try clear hw18
     have hw20 := St.frontL (l := [_, _, _, _, _]) hw19
     simp only [List.cons_append, List.nil_append] at hw20
     try clear hw19
     have hw21 := St.frontL (l := [_, _, _]) hw20
     simp only [List.cons_append, List.nil_append] at hw21
     try clear hw20
     have hw22 := St.del (.tail (.tail (.tail (.tail (.tail .head))))) hw21
     try clear hw21
     have hw23 := St.del (.tail (.tail (.tail (.tail .head)))) hw22
     try clear hw22
     have hw24 := St.del (.tail (.tail (.tail .head))) hw23
     try clear hw23
     refine e_meetk (v2, padT (dtx (rnE (fN (fX d (b % d.S)) (-n)) (fD (fY d (b % d.S)) (-n)))) n) ?_ (.cons rfl (.cons rfl .nil)) ?_
     ·have hpd : padT (dtx (rnE (fN (fX d (b % d.S)) (-n)) (fD (fY d (b % d.S)) (-n)))) n = zsT (n + 1 - ((dtx (rnE (fN (fX d (b % d.S)) (-n)) (fD (fY d (b % d.S)) (-n)))).length : Int)) ++ dtx (rnE (fN (fX d (b % d.S)) (-n)) (fD (fY d (b % d.S)) (-n))) := by unfold padT; rw [if_pos (by omega)]
      have hzl : (zsT (n + 1 - ((dtx (rnE (fN (fX d (b % d.S)) (-n)) (fD (fY d (b % d.S)) (-n)))).length : Int))).length = (n + 1 - ((dtx (rnE (fN (fX d (b % d.S)) (-n)) (fD (fY d (b % d.S)) (-n)))).length : Int)).toNat := by unfold zsT; rw [List.length_replicate]
      exact ⟨St.front2 (St.front2 (St.ro_iv (hw24.cast (by rw [← hpd])))), rfl, by rw [hpd, List.length_append]; omega, by rw [hpd, List.length_append]; omega⟩
     ·exact (.cons rfl (by first | rfl | (refine congrArg (Value.int _) ?_; omega)) .nil)
    ·skip
     refine c_skip ?_
     have hw25 := St.frontL (l := [_, _, _]) hw11
     simp only [List.cons_append, List.nil_append] at hw25
     try clear hw11
     have hw26 := St.frontL (l := [_, _, _]) hw25
     simp only [List.cons_append, List.nil_append] at hw26
     try clear hw25
     have hw27 := St.del (.tail (.tail (.tail .head))) hw26
     try clear hw26
     refine e_meetk (vd, padT (dtx (rnE (fN (fX d (b % d.S)) (-n)) (fD (fY d (b % d.S)) (-n)))) n) ?_ (.cons rfl (.cons rfl .nil)) ?_
     ·have hpd : padT (dtx (rnE (fN (fX d (b % d.S)) (-n)) (fD (fY d (b % d.S)) (-n)))) n = dtx (rnE (fN (fX d (b % d.S)) (-n)) (fD (fY d (b % d.S)) (-n))) := by unfold padT; rw [if_neg (by omega)]
      exact ⟨hw27.cast (by rw [hpd]), rfl, by rw [hpd]; omega, by rw [hpd]; omega⟩
     ·exact (.cons rfl (by first | rfl | (refine congrArg (Value.int _) ?_; omega)) .nil)
   rintro ⟨vd2, ds⟩ w28 ⟨hw28, hds, hdn, hd1⟩
   show RunC P _ _ _ (_ :: _) _
   refine c_seq (c_region (l_move rfl rfl rfl (l_move rfl rfl rfl (l_move rfl rfl rfl ?_))))
   refine v_lenb rfl rfl Tryd.underlying25 rfl (by first | exact hw28.ibl mem0 | exact hw28.io mem1 | exact hw28.ii mem2 | assumption) ?_
   refine l_move rfl rfl rfl ?_
   refine l_sub rfl rfl rfl rfl (w_i64 (by omega)) ?_
   refine l_turn (s := 61) (v' := .int .i64 ((ds.length - n.toNat : Nat) : Int)) rfl (congrArg (Value.int .i64) (by omega)) ?_
   refine l_call rfl rfl Tryd.func27 rfl rfl (.cons rfl (.cons rfl (.cons rfl .nil))) (pointP lb vt t (by omega) vd2 ds (by omega) (ds.length - n.toNat) (by omega) w28 (St.rows (τ := [As.blk lb 52 [vt], As.rb 5 vt t, As.iv vd2 (bys ds)]) hw28)) ?_
   rintro _ w29 ⟨v3, rfl, hX⟩
   have hw29 := hX _ _ _ _ hw28
   simp only [List.cons_append, List.nil_append] at hw29
   try clear hX hw28
   refine l_nil (e_then ?_)
   refine c_keep [8] (.cons rfl .nil) ?_
   refine c_seq (c_region (l_move rfl rfl rfl (l_nilCheck rfl rfl rfl (l_field fo52_0 rfl rfl rfl ?_))))
   refine l_load_blk hw29 mem0 rfl rfl Tryd.underlying25 rfl rfl rfl ?_
   refine l_assign rfl rfl rfl (l_assign rfl rfl rfl (l_nil (e_then ?_)))
   refine c_keep [6, 7] (.cons rfl (.cons rfl .nil)) ?_
   refine c_ret ?_
   refine e_done2 Tryd.results7 rfl rfl ?_
   refine ⟨_, rfl, ?_⟩
   have hw30 := St.front1 hw29
   try clear hw29
   have hw31 := St.del (.tail (.tail .head)) hw30
   try clear hw30
   have hw32 := St.del (.tail .head) hw31
   try clear hw31
   refine ⟨_, 0, _, rfl, ⟨he0 ▸ hA.1, fun h => absurd rfl h, fun _ => ⟨d, hk, hltS, ?_⟩⟩, hw32.grows⟩
   rw [wdT_fin hfin, htS, fxT, ← hds, show ((ds.length - n.toNat : Nat) : Int) = (ds.length : Int) - n by omega]
section
variable {P : Program} {N : Nat} {ops : Array Oper} {Q : PostM} {ρ : Env} {w w0 : World} {rest : List Oper} {d : Nat} {ty : TypeId} {pos : String} {af : Array Edge} {g : Option (Nat × Bool)}
theorem l_makeF {f : FuncId} {first : List Operand} {vals : List Value} (hg : wantE ops ρ g = true) (hN : Nat.blt d N = true) (hv : EvalArgs ρ first vals)
  (n : RunL P N ops Q rest ((d, .func (.func f) vals.toArray #[]) :: ρ) w) : RunL P N ops Q (⟨some d, .makeFunc (.func f) first.toArray #[], ty, pos, af, g⟩ :: rest) ρ w :=
 l_val hg rfl hN (fun a ha => by
  have hmap : first.toArray.map a.eval = vals.toArray := by rw [← hv.map ha]; simp
  simp [execOp, Instr.makeFunc, hmap]) n
theorem l_callF {Q : Post} {x : Operand} {f : FuncId} {fn : Func} {c : Code} {args : List Operand} {vals first : List Value} {ats : Array TypeId} {R : Value → World → Prop} (hg : wantE ops ρ g = true) (hN : Nat.blt d N = true) (hx : evalE ρ x = some (.func (.func f) first.toArray #[])) (hf : P.funcs[f]? = some fn) (hn : (fn.name == "runtime.NumGoroutine") = false) (hb : fn.body = some c)
  (hv : EvalArgs ρ args vals) (h : CallsV P f (first ++ vals) w R) (n : ∀ v w', R v w' → RunL P N ops ⟨false, Q⟩ rest ((d, v) :: ρ) w') : RunL P N ops ⟨false, Q⟩ (⟨some d, .call ⟨.value x, args.toArray, ats⟩, ty, pos, af, g⟩ :: rest) ρ w := fun a ha => by
 show wpList P ops Q (_ :: _) a w
 unfold wpList
 rw [if_pos (wanted_of ha hg)]
 refine .inl ?_
 unfold Oper.wp
 have h1 : fn.name ≠ "runtime.NumGoroutine" := by simpa using hn
 have hmap : args.toArray.map a.eval = vals.toArray := by rw [← hv.map ha]; simp
 have : (execOp a.eval ⟨some d, .call ⟨.value x, args.toArray, ats⟩, ty, pos, af, g⟩).run P w = .ok (.enter f (first ++ vals).toArray) w := by
  simp only [execOp, resolve, hmap, ha.eval hx]
  simp [Deferred.ofValue, invoke, callFunc, hf, h1, hb]
 rw [this, Oper.upon_enter]
 refine Calls.mono h fun e w' hr => ?_
 obtain ⟨v, rfl, hr⟩ := hr
 exact n v w' hr _ (ha.put d hN v)
end
def ShT (k b e : Int) (t : List UInt8) : Prop := e = (clsF k b).2 ∧ (e ≠ 0 → t = []) ∧ (e = 0 → ∃ d body, kd k = some d ∧ b < 2 * d.S ∧ t = wdT d b body ∧ (b % d.S = 0 → body = [48]) ∧ (0 < b % d.S → b % d.S < d.I → ∃ m x, DigR d (b % d.S) (fX d (b % d.S)) (fY d (b % d.S)) m x ∧ body = shT m x))
theorem ShT.unique {k b e e' : Int} {t t' : List UInt8} (hb : 0 ≤ b) (h : ShT k b e t) (g : ShT k b e' t') : e = e' ∧ t = t' := by
 have he : e = e' := h.1.trans g.1.symm
 subst he
 refine ⟨rfl, ?_⟩
 by_cases h0 : e = 0
 ·obtain ⟨d, bd, hd, _, h1, h2, h3⟩ := h.2.2 h0
  obtain ⟨d', bd', hd', _, g1, g2, g3⟩ := g.2.2 h0
  rw [hd] at hd'
  cases hd'
  have hbd := d.bd
  have hm := Int.emod_nonneg b (show d.S ≠ 0 by omega)
  rcases Int.lt_or_le (b % d.S) d.I with h4 | h4
  ·rcases Int.lt_or_eq_of_le hm with h5 | h5
   ·obtain ⟨m, x, hD, e1⟩ := h3 h5 h4
    obtain ⟨m', x', hD', e1'⟩ := g3 h5 h4
    obtain ⟨rfl, rfl⟩ := hD.unique (fY_pos _ _) hD'
    rw [h1, g1, e1, e1']
   ·rw [h1, g1, h2 h5.symm, g2 h5.symm]
  ·rw [h1, g1]
   exact wdT_over h4
 ·rw [h.2.1 h0, g.2.1 h0]
theorem tab_keep {w w1 : World} (h : TabP w) (hk : ∀ k, k < w.heap.size → ¬ None' k → w1.heap[k]? = w.heap[k]?) : TabP w1 := by
 unfold TabP Lib.TabIs World.var? at *
 cases hg : P.globalNamed "internal/strconv.uint64pow10" with
 | none => simp [hg] at h
 | some g =>
  simp only [hg, Option.bind_some] at h ⊢
  have hlt : g < w.heap.size := by
   rcases Nat.lt_or_ge g w.heap.size with h' | h'
   ·exact h'
   ·rw [Array.getElem?_eq_none h'] at h; simp at h
  rw [hk g hlt (fun e => e)]
  exact h
theorem ShortestP (k b : Int) (hb : 0 ≤ b ∧ b ≤ 18446744073709551615) (w : World) (hT : TabP w) :
  CallsV P 21 [.int .i64 k, .int .u64 b] w fun r w' => ∃ v e t, r = .tuple #[v, .int .i64 e] ∧ ShT k b e t ∧ Grow w w' [As.rb 5 v t] := by
 refine enterW Tryd.func21 rfl Tryd.ntmps21 rfl ?_
 have hw0 := St.start w
 have hTT : ∀ w1 : World, (∀ k, k < w.heap.size → ¬ None' k → w1.heap[k]? = w.heap[k]?) → TabP w1 := fun w1 h => tab_keep hT h
 refine c_seq (c_region (l_assign rfl rfl rfl (l_assign rfl rfl rfl (l_nil (e_then ?_)))))
 refine c_keep [0, 1] (.cons rfl (.cons rfl .nil)) ?_
 refine c_seq (c_region (l_move rfl rfl rfl (l_move rfl rfl rfl ?_)))
 refine l_call rfl rfl Tryd.func34 rfl rfl (.cons rfl (.cons rfl .nil)) (begunQ k b hb w) ?_
 rintro _ w1 ⟨p, n1, n2, n3, over, e, A1, A2, rfl, hB, hG⟩
 have hw1 := hG _ _ _ _ hw0
 try clear hG hw0
 simp only [List.cons_append, List.nil_append] at hw1
 refine l_move rfl rfl rfl (l_extract rfl rfl rfl rfl (l_extract rfl rfl rfl rfl (l_extract rfl rfl rfl rfl (l_extract rfl rfl rfl rfl ?_))))
 refine l_alloc hw1 ta30 rfl rfl (fun b1_8 w2 hw2 => ?_)
 try clear hw1
 refine l_assign rfl rfl rfl ?_
 refine l_store_blks hw2 .head (.zero (.zero (.zero .nil))) rfl tz30 rfl rfl (by first | (simp [Value.oneCell']; done) | (intro u hu; simp only [List.mem_cons, List.not_mem_nil, or_false] at hu; rcases hu with rfl | rfl | rfl <;> first | rfl | assumption)) (fun w3 hw3 => ?_)
 try clear hw2
 refine l_assign rfl rfl rfl (l_assign rfl rfl rfl (l_nil (e_then ?_)))
 refine c_keep [0, 1, 6, 7, 8, 9] (.cons rfl (.cons rfl (.cons rfl (.cons rfl (.cons rfl (.cons rfl .nil)))))) ?_
 refine c_seq (c_block (c_seq (c_region (l_move rfl rfl rfl ?_))))
 refine l_neq rfl rfl rfl rfl ?_
 refine l_assign rfl rfl rfl (l_nil (e_then ?_))
 refine c_keep [0, 1, 6, 7, 8, 9, 25] (.cons rfl (.cons rfl (.cons rfl (.cons rfl (.cons rfl (.cons rfl (.cons rfl .nil))))))) ?_
 first | refine c_cond rfl (fun hc0 => ?_) (fun hc0 => ?_) | refine c_condb rfl (fun hc0 => ?_) (fun hc0 => ?_)
 ·skip
  refine c_seq (c_region (l_move rfl rfl rfl (l_assign rfl rfl rfl (l_assign rfl rfl rfl (l_nil ?_)))))
  refine e_then ?_
  refine c_keep [4, 5] (.cons rfl (.cons rfl .nil)) ?_
  refine c_ret ?_
  refine e_blk_ret ?_
  refine e_then_ret ?_
  refine e_done2 Tryd.results21 rfl rfl ?_
  refine ⟨_, rfl, ?_⟩
  have hw4 := St.front2 hw3
  try clear hw3
  have hw5 := St.del (.tail (.tail .head)) hw4
  try clear hw4
  have hw6 := St.del (.tail .head) hw5
  try clear hw5
  have hw7 := St.del .head hw6
  try clear hw6
  exact ⟨_, e, [], rfl, ⟨hB.1, fun _ => rfl, fun h => absurd h hc0⟩, (hw7.nil 5).grows⟩
 ·skip
  have he0 : e = 0 := by omega
  obtain ⟨d, lb, vt, t, hk, hltS, rfl, rfl, rfl, htl, hov, hnov⟩ := hB.2 he0
  have hbd := d.bd
  have hms := mod_S d ⟨hb.1, hltS⟩
  refine c_seq (c_region (l_move rfl rfl rfl (l_assign rfl rfl rfl (l_nil (e_then ?_)))))
  refine c_keep [0, 1, 6, 7, 29] (.cons rfl (.cons rfl (.cons rfl (.cons rfl (.cons rfl .nil))))) ?_
  first | refine c_cond rfl (fun hc1 => ?_) (fun hc1 => ?_) | refine c_condb rfl (fun hc1 => ?_) (fun hc1 => ?_)
  ·skip
   refine c_seq (c_region (l_move rfl rfl rfl (l_nilCheck rfl rfl rfl (l_field fo52_0 rfl rfl rfl ?_))))
   refine l_load_blk hw3 mem1 rfl rfl Tryd.underlying25 rfl rfl rfl ?_
   refine l_assign rfl rfl rfl (l_assign rfl rfl rfl (l_nil (e_then ?_)))
   refine c_keep [4, 5] (.cons rfl (.cons rfl .nil)) ?_
   refine c_ret ?_
   refine e_blk_ret ?_
   refine e_then_ret ?_
   refine e_done2 Tryd.results21 rfl rfl ?_
   refine ⟨_, rfl, ?_⟩
   have hw8 := St.front2 hw3
   try clear hw3
   have hw9 := St.del (.tail (.tail .head)) hw8
   try clear hw8
   have hw10 := St.del (.tail .head) hw9
   try clear hw9
   exact ⟨_, 0, _, rfl, ⟨he0 ▸ hB.1, fun h => absurd rfl h, fun _ => ⟨d, (if b % d.S = 0 then [48] else []), hk, hltS, by rw [(hov hc1).2]; exact wdT_over (hov hc1).1, fun h => if_pos h, fun h1 h2 => absurd h2 (by have := (hov hc1).1; omega)⟩⟩, hw10.grows⟩
  ·skip
   obtain ⟨hfin, htS, hR⟩ := hnov (by simpa using hc1)
   obtain ⟨rfl, rfl, rfl⟩ : n1 = decide (d.S ≤ b) ∧ n2 = splM d (b % d.S) ∧ n3 = splE d (b % d.S) := by simpa using hR
   have hz : splM d (b % d.S) = 0 ↔ b % d.S = 0 := by
    constructor
    ·intro h
     rcases Int.lt_or_eq_of_le (show 0 ≤ b % d.S by omega) with h1 | h1
     ·have := splM_pos (d := d) (b := b % d.S) ⟨h1, hfin⟩
      omega
     ·exact h1.symm
    ·intro h
     unfold splM
     rw [h, Int.zero_emod, if_pos (by omega)]
   refine c_seq (c_region (l_field fo30_1 rfl rfl rfl ?_))
   refine l_load_blk hw3 mem0 rfl rfl Tryd.underlying22 rfl rfl rfl ?_
   refine l_eql rfl rfl rfl rfl ?_
   refine l_assign rfl rfl rfl (l_nil (e_then ?_))
   refine c_keep [0, 1, 6, 35] (.cons rfl (.cons rfl (.cons rfl (.cons rfl .nil)))) ?_
   first | refine c_cond rfl (fun hc2 => ?_) (fun hc2 => ?_) | refine c_condb rfl (fun hc2 => ?_) (fun hc2 => ?_)
   ·skip
    refine c_seq (c_region (l_move rfl rfl rfl ?_))
    refine v_lit hw3 rfl rfl Tryd.underlying25 ti5 rfl (.cons rfl (by first | rfl | assumption) .nil) rfl rfl rfl (fun b7_1 w11 hw11 => ?_)
    try clear hw3
    have hw12 := St.frontL (l := [_, _, _]) hw11
    simp only [List.cons_append, List.nil_append] at hw12
    try clear hw11
    have hw13 := St.frontL (l := [_, _, _]) hw12
    simp only [List.cons_append, List.nil_append] at hw13
    try clear hw12
    refine l_call rfl rfl Tryd.func26 rfl rfl (.cons rfl (.cons rfl .nil)) (putP lb vt (t) (by first | omega | (simp only [List.length_append, List.length_cons, List.length_nil]; omega)) _ ([48]) (by first | (simp; done) | omega) w11 (St.rows (τ := [As.blk lb 52 [vt], As.rb 5 vt (t)]) hw13) (St.argR (τ := [As.blk lb 52 [vt], As.rb 5 vt (t)]) hw13 (A := As.blk b7_1 5 [.int .u8 48]) (.head _) (R := fun w1 => IB w1 (.slice (some ⟨b7_1, 0, none⟩) 1 1) [48]) (fun w1 h => blk_iv h))) ?_
    rintro _ w14 ⟨v2, rfl, hX⟩
    have hw14 := hX _ _ _ _ hw13
    simp only [List.cons_append, List.nil_append] at hw14
    try clear hX hw13
    refine l_nil (e_then ?_)
    refine c_keep [6] (.cons rfl .nil) ?_
    refine c_seq (c_region (l_move rfl rfl rfl (l_nilCheck rfl rfl rfl (l_field fo52_0 rfl rfl rfl ?_))))
    refine l_load_blk hw14 mem0 rfl rfl Tryd.underlying25 rfl rfl rfl ?_
    refine l_assign rfl rfl rfl (l_assign rfl rfl rfl (l_nil (e_then ?_)))
    refine c_keep [4, 5] (.cons rfl (.cons rfl .nil)) ?_
    refine c_ret ?_
    refine e_blk_ret ?_
    refine e_then_ret ?_
    refine e_done2 Tryd.results21 rfl rfl ?_
    refine ⟨_, rfl, ?_⟩
    have hw15 := St.front1 hw14
    try clear hw14
    have hw16 := St.del (.tail (.tail (.tail .head))) hw15
    try clear hw15
    have hw17 := St.del (.tail (.tail .head)) hw16
    try clear hw16
    have hw18 := St.del (.tail .head) hw17
    try clear hw17
    exact ⟨_, 0, _, rfl, ⟨he0 ▸ hB.1, fun h => absurd rfl h, fun _ => ⟨d, [48], hk, hltS, by rw [wdT_fin hfin, htS], fun h => rfl, fun h1 h2 => absurd (hz.1 hc2) (by omega)⟩⟩, hw18.grows⟩
   ·skip
    have hpos : 0 < b % d.S := by
     have : ¬ b % d.S = 0 := fun h => hc2 (hz.2 h)
     omega
    refine c_skip ?_
    refine e_blk ?_
    refine e_then ?_
    refine c_keep [0, 1, 6] (.cons rfl (.cons rfl (.cons rfl .nil))) ?_
    refine c_seq (c_region (l_move rfl rfl rfl (l_move rfl rfl rfl ?_)))
    refine l_call rfl rfl Tryd.func35 rfl rfl (.cons rfl (.cons rfl .nil)) (DigitsF k b hb w3) ?_
    rintro _ w19 ⟨m, x, er, rfl, hE, hG⟩
    have hw19 := hG _ _ _ _ hw3
    try clear hG hw3
    simp only [List.cons_append, List.nil_append] at hw19
    obtain rfl : er = 0 := hE.1.trans (ofE_is hk hltS ⟨hpos, hfin⟩)
    obtain ⟨d', hd', _, _, _, hDig⟩ := hE.2.2 rfl
    rw [hk] at hd'
    cases hd'
    have hbdE := hDig.bd ⟨hpos, hfin⟩
    refine l_move rfl rfl rfl (l_extract rfl rfl rfl rfl (l_extract rfl rfl rfl rfl (l_extract rfl rfl rfl rfl (l_assign rfl rfl rfl (l_assign rfl rfl rfl ?_)))))
    refine l_assign rfl rfl rfl (l_nil (e_then ?_))
    refine c_keep [6, 10, 11] (.cons rfl (.cons rfl (.cons rfl .nil))) ?_
    refine c_seq (c_region (l_move rfl rfl rfl ?_))
    refine l_call rfl rfl Tryd.func36 rfl rfl (.cons rfl .nil) (textD m (by omega) w19) ?_
    rintro vd w20 ⟨_, rfl, hG⟩
    have hw20 := hG _ _ _ _ hw19
    try clear hG hw19
    simp only [List.cons_append, List.nil_append] at hw20
    have hml := dtx_le (x := m) (by omega)
    have hml1 := dtx_pos (z := m) (by omega)
    have hpt1 : (ptT (dtx m) 1).length ≤ 30 := by unfold ptT; split <;> simp <;> omega
    refine l_assign rfl rfl rfl (l_nil (e_then ?_))
    refine c_keep [6, 11, 13] (.cons rfl (.cons rfl (.cons rfl .nil))) ?_
    refine c_seq (c_region ?_)
    have hw21 := St.ro_iv hw20
    try clear hw20
    refine l_move rfl rfl rfl ?_
    refine l_makeF rfl rfl (.cons rfl .nil) ?_
    refine l_move rfl rfl rfl ?_
    refine l_makeF rfl rfl (.cons rfl .nil) ?_
    refine l_assign rfl rfl rfl (l_assign rfl rfl rfl (l_nil (e_then ?_)))
    refine c_keep [6, 11, 13, 14, 15] (.cons rfl (.cons rfl (.cons rfl (.cons rfl (.cons rfl .nil))))) ?_
    refine c_seq (c_region (l_move rfl rfl rfl ?_))
    refine v_lenb rfl rfl Tryd.underlying25 rfl (by first | exact hw21.ii mem0 | exact hw21.ibl mem1 | exact hw21.ibl mem2 | exact hw21.io mem3 | assumption) ?_
    refine l_move rfl rfl rfl ?_
    refine l_add rfl rfl rfl rfl (w_i64 (by omega)) ?_
    refine l_assign rfl rfl rfl (l_nil (e_then ?_))
    refine c_keep [6, 13, 14, 15, 16] (.cons rfl (.cons rfl (.cons rfl (.cons rfl (.cons rfl .nil))))) ?_
    refine c_seq (c_block (c_seq (c_region (l_move rfl rfl rfl ?_))))
    refine l_lss rfl rfl rfl rfl ?_
    refine l_move rfl rfl rfl ?_
    apply l_or 2 [6, 13, 14, 15, 16] rfl rfl (.cons rfl (.cons rfl (.cons rfl (.cons rfl (.cons rfl (.cons rfl .nil)))))) rfl rfl (fun _ => rfl) rfl rfl rfl
    ·intro hg15_3
     refine l_move rfl rfl rfl ?_
     refine l_gtr rfl rfl rfl rfl ?_
     refine l_nil ?_
     exact e_stays rfl (.cons rfl (congrArg Value.bool (decide_eq_false hg15_3).symm) (.cons rfl rfl (.cons rfl rfl (.cons rfl rfl (.cons rfl rfl (.cons rfl rfl .nil))))))
    refine l_assign rfl rfl rfl (l_nil (e_then ?_))
    refine c_keep [6, 13, 14, 15, 16, 72] (.cons rfl (.cons rfl (.cons rfl (.cons rfl (.cons rfl (.cons rfl .nil)))))) ?_
    first | refine c_cond rfl (fun hc3 => ?_) (fun hc3 => ?_) | refine c_condb rfl (fun hc3 => ?_) (fun hc3 => ?_)
    ·skip
     refine c_seq (c_region (l_move rfl rfl rfl (l_move rfl rfl rfl ?_)))
     have hw22 := St.frontL (l := [_, _, _]) hw21
     simp only [List.cons_append, List.nil_append] at hw22
     try clear hw21
     have hw23 := St.frontL (l := [_, _, _]) hw22
     simp only [List.cons_append, List.nil_append] at hw23
     try clear hw22
     refine l_call rfl rfl Tryd.func27 rfl rfl (.cons rfl (.cons rfl (.cons rfl .nil))) (pointP lb vt (t) (by first | omega | (simp only [List.length_append, List.length_cons, List.length_nil]; omega)) vd (dtx m) (by omega) (1) (by omega) w20 (St.rows (τ := [As.blk lb 52 [vt], As.rb 5 vt (t), As.iv vd (bys (dtx m))]) hw23)) ?_
     rintro _ w24 ⟨v2, rfl, hX⟩
     have hw24 := hX _ _ _ _ hw23
     simp only [List.cons_append, List.nil_append] at hw24
     try clear hX hw23
     refine l_nil (e_then ?_)
     refine c_keep [6, 16] (.cons rfl (.cons rfl .nil)) ?_
     refine c_region (l_move rfl rfl rfl (l_move rfl rfl rfl ?_))
     refine l_sub rfl rfl rfl rfl (w_i64 (by omega)) ?_
     refine l_call rfl rfl Tryd.func37 rfl rfl (.cons rfl (.cons rfl .nil)) (expP lb v2 (t ++ ptT (dtx m) 1) (by first | omega | (simp only [List.length_append, List.length_cons, List.length_nil]; omega) | (have := hpt1; simp only [List.length_append, List.length_cons, List.length_nil]; omega)) ((((dtx m).length : Int) + x) - 1) (by omega) w24 (St.rows (τ := [As.blk lb 52 [v2], As.rb 5 v2 (t ++ ptT (dtx m) 1)]) hw24) (St.argH (τ := [As.blk lb 52 [v2], As.rb 5 v2 (t ++ ptT (dtx m) 1)]) hw24 hTT)) ?_
     rintro _ w25 ⟨v3, rfl, hX⟩
     have hw25 := hX _ _ _ _ hw24
     simp only [List.cons_append, List.nil_append] at hw25
     try clear hX hw24
     refine l_nil ?_
     refine e_blk ?_
     refine e_then ?_
     refine c_keep [6] (.cons rfl .nil) ?_
     refine c_seq (c_region (l_move rfl rfl rfl (l_nilCheck rfl rfl rfl (l_field fo52_0 rfl rfl rfl ?_))))
     refine l_load_blk hw25 mem0 rfl rfl Tryd.underlying25 rfl rfl rfl ?_
     refine l_assign rfl rfl rfl (l_assign rfl rfl rfl (l_nil (e_then ?_)))
     refine c_keep [4, 5] (.cons rfl (.cons rfl .nil)) ?_
     refine c_ret ?_
     refine e_done2 Tryd.results21 rfl rfl ?_
     refine ⟨_, rfl, ?_⟩
     have hw26 := St.front1 hw25
     try clear hw25
     have hw27 := St.del (.tail (.tail (.tail .head))) hw26
     try clear hw26
     have hw28 := St.del (.tail (.tail .head)) hw27
     try clear hw27
     have hw29 := St.del (.tail .head) hw28
     try clear hw28
     refine ⟨_, 0, _, rfl, ⟨he0 ▸ hB.1, fun h => absurd rfl h, fun _ => ⟨d, shT m x, hk, hltS, ?_, fun h => absurd h (by omega), fun h1 h2 => ⟨m, x, hDig, rfl⟩⟩⟩, hw29.grows⟩
     rw [wdT_fin hfin, htS]
     unfold shT
     rw [if_pos hc3]
     all_goals simp
    ·skip
     refine c_seq (c_region (l_move rfl rfl rfl ?_))
     refine l_lss rfl rfl rfl rfl ?_
     refine l_assign rfl rfl rfl (l_nil (e_then ?_))
     refine c_keep [6, 13, 14, 15, 16, 86] (.cons rfl (.cons rfl (.cons rfl (.cons rfl (.cons rfl (.cons rfl .nil)))))) ?_
     first | refine c_cond rfl (fun hc4 => ?_) (fun hc4 => ?_) | refine c_condb rfl (fun hc4 => ?_) (fun hc4 => ?_)
     ·skip
      refine c_seq (c_region (l_move rfl rfl rfl ?_))
      refine v_lit hw21 rfl rfl Tryd.underlying25 ti5 rfl (.cons rfl (by first | rfl | assumption) (.cons rfl (by first | rfl | assumption) .nil)) rfl rfl rfl (fun b19_1 w30 hw30 => ?_)
      try clear hw21
      have hw31 := St.frontL (l := [_, _, _, _]) hw30
      simp only [List.cons_append, List.nil_append] at hw31
      try clear hw30
      have hw32 := St.frontL (l := [_, _, _, _]) hw31
      simp only [List.cons_append, List.nil_append] at hw32
      try clear hw31
      refine l_callF rfl rfl rfl Tryd.func26 rfl rfl (.cons rfl .nil) (putP lb vt (t) (by first | omega | (simp only [List.length_append, List.length_cons, List.length_nil]; omega)) _ ([48, 46]) (by first | (simp; done) | omega) w30 (St.rows (τ := [As.blk lb 52 [vt], As.rb 5 vt (t)]) hw32) (St.argR (τ := [As.blk lb 52 [vt], As.rb 5 vt (t)]) hw32 (A := As.blk b19_1 5 [.int .u8 48, .int .u8 46]) (.head _) (R := fun w1 => IB w1 (.slice (some ⟨b19_1, 0, none⟩) 2 2) [48, 46]) (fun w1 h => blk_iv h))) ?_
      rintro _ w33 ⟨v2, rfl, hX⟩
      have hw33 := hX _ _ _ _ hw32
      simp only [List.cons_append, List.nil_append] at hw33
      try clear hX hw32
      refine l_nil (e_then ?_)
      refine c_keep [6, 13, 14, 15, 16] (.cons rfl (.cons rfl (.cons rfl (.cons rfl (.cons rfl .nil))))) ?_
      refine c_seq (c_region (l_move rfl rfl rfl (l_move rfl rfl rfl ?_)))
      refine l_neg rfl rfl rfl (w_i64 (by omega)) ?_
      have hzl : (zsT (0 - (((dtx m).length : Int) + x))).length = (0 - (((dtx m).length : Int) + x)).toNat := by unfold zsT; rw [List.length_replicate]
      have hw34 := St.frontL (l := [_]) hw33
      simp only [List.cons_append, List.nil_append] at hw34
      try clear hw33
      have hw35 := St.frontL (l := [_]) hw34
      simp only [List.cons_append, List.nil_append] at hw35
      try clear hw34
      refine l_callF rfl rfl rfl Tryd.func25 rfl rfl (.cons rfl .nil) (noughtsP lb v2 (t ++ [48, 46]) (by first | omega | (simp only [List.length_append, List.length_cons, List.length_nil]; omega)) (0 - (((dtx m).length : Int) + x)) (by omega) w33 (St.rows (τ := [As.blk lb 52 [v2], As.rb 5 v2 (t ++ [48, 46])]) hw35)) ?_
      rintro _ w36 ⟨v3, rfl, hX⟩
      have hw36 := hX _ _ _ _ hw35
      simp only [List.cons_append, List.nil_append] at hw36
      try clear hX hw35
      refine l_nil (e_then ?_)
      refine c_keep [6, 13, 14] (.cons rfl (.cons rfl (.cons rfl .nil))) ?_
      refine c_region (l_move rfl rfl rfl (l_move rfl rfl rfl ?_))
      have hw37 := St.frontL (l := [_, _, _]) hw36
      simp only [List.cons_append, List.nil_append] at hw37
      try clear hw36
      have hw38 := St.frontL (l := [_, _]) hw37
      simp only [List.cons_append, List.nil_append] at hw38
      try clear hw37
      have hw39 := St.frontL (l := [_, _]) hw38
      simp only [List.cons_append, List.nil_append] at hw39
      try clear hw38
      refine l_callF rfl rfl rfl Tryd.func26 rfl rfl (.cons rfl .nil) (putP lb v3 (t ++ [48, 46] ++ zsT (0 - (((dtx m).length : Int) + x))) (by first | omega | (simp only [List.length_append, List.length_cons, List.length_nil]; omega)) vd (dtx m) (by first | (simp; done) | omega) w36 (St.rows (τ := [As.blk lb 52 [v3], As.rb 5 v3 (t ++ [48, 46] ++ zsT (0 - (((dtx m).length : Int) + x)))]) hw39) (St.argR (τ := [As.blk lb 52 [v3], As.rb 5 v3 (t ++ [48, 46] ++ zsT (0 - (((dtx m).length : Int) + x)))]) hw39 (A := As.iv vd (bys (dtx m))) (.head _) (R := fun w1 => IB w1 vd (dtx m)) (fun w1 h => h))) ?_
      rintro _ w40 ⟨v4, rfl, hX⟩
      have hw40 := hX _ _ _ _ hw39
      simp only [List.cons_append, List.nil_append] at hw40
      try clear hX hw39
      refine l_nil ?_
      refine e_blk ?_
      refine e_then ?_
      refine c_keep [6] (.cons rfl .nil) ?_
      refine c_seq (c_region (l_move rfl rfl rfl (l_nilCheck rfl rfl rfl (l_field fo52_0 rfl rfl rfl ?_))))
      refine l_load_blk hw40 mem0 rfl rfl Tryd.underlying25 rfl rfl rfl ?_
      refine l_assign rfl rfl rfl (l_assign rfl rfl rfl (l_nil (e_then ?_)))
      refine c_keep [4, 5] (.cons rfl (.cons rfl .nil)) ?_
      refine c_ret ?_
      refine e_done2 Tryd.results21 rfl rfl ?_
      refine ⟨_, rfl, ?_⟩
      have hw41 := St.front1 hw40
      try clear hw40
      have hw42 := St.del (.tail (.tail (.tail (.tail .head)))) hw41
      try clear hw41
      have hw43 := St.del (.tail (.tail (.tail .head))) hw42
      try clear hw42
      have hw44 := St.del (.tail (.tail .head)) hw43
      try clear hw43
      have hw45 := St.del (.tail .head) hw44
      try clear hw44
      refine ⟨_, 0, _, rfl, ⟨he0 ▸ hB.1, fun h => absurd rfl h, fun _ => ⟨d, shT m x, hk, hltS, ?_, fun h => absurd h (by omega), fun h1 h2 => ⟨m, x, hDig, rfl⟩⟩⟩, hw45.grows⟩
      rw [wdT_fin hfin, htS]
      unfold shT
      rw [if_neg hc3, if_pos (by omega), Int.zero_sub]
      all_goals simp
     ·skip
      refine c_seq (c_region (l_move rfl rfl rfl (l_move rfl rfl rfl ?_)))
      refine v_lenb rfl rfl Tryd.underlying25 rfl (by first | exact hw21.ii mem0 | exact hw21.ibl mem1 | exact hw21.ibl mem2 | exact hw21.io mem3 | assumption) ?_
      refine l_lss rfl rfl rfl rfl ?_
      refine l_assign rfl rfl rfl (l_nil (e_then ?_))
      refine c_keep [6, 13, 14, 15, 16, 99] (.cons rfl (.cons rfl (.cons rfl (.cons rfl (.cons rfl (.cons rfl .nil)))))) ?_
      first | refine c_cond rfl (fun hc5 => ?_) (fun hc5 => ?_) | refine c_condb rfl (fun hc5 => ?_) (fun hc5 => ?_)
      ·skip
       refine c_region (l_move rfl rfl rfl (l_move rfl rfl rfl (l_move rfl rfl rfl ?_)))
       refine l_turn (s := 106) (v' := .int .i64 (((((dtx m).length : Int) + x).toNat : Nat) : Int)) rfl (congrArg (Value.int .i64) (by omega)) ?_
       have hw46 := St.frontL (l := [_, _, _]) hw21
       simp only [List.cons_append, List.nil_append] at hw46
       try clear hw21
       have hw47 := St.frontL (l := [_, _, _]) hw46
       simp only [List.cons_append, List.nil_append] at hw47
       try clear hw46
       refine l_call rfl rfl Tryd.func27 rfl rfl (.cons rfl (.cons rfl (.cons rfl .nil))) (pointP lb vt (t) (by first | omega | (simp only [List.length_append, List.length_cons, List.length_nil]; omega)) vd (dtx m) (by omega) ((((dtx m).length : Int) + x).toNat) (by omega) w20 (St.rows (τ := [As.blk lb 52 [vt], As.rb 5 vt (t), As.iv vd (bys (dtx m))]) hw47)) ?_
       rintro _ w48 ⟨v2, rfl, hX⟩
       have hw48 := hX _ _ _ _ hw47
       simp only [List.cons_append, List.nil_append] at hw48
       try clear hX hw47
       refine l_nil ?_
       refine e_blk ?_
       refine e_then ?_
       refine c_keep [6] (.cons rfl .nil) ?_
       refine c_seq (c_region (l_move rfl rfl rfl (l_nilCheck rfl rfl rfl (l_field fo52_0 rfl rfl rfl ?_))))
       refine l_load_blk hw48 mem0 rfl rfl Tryd.underlying25 rfl rfl rfl ?_
       refine l_assign rfl rfl rfl (l_assign rfl rfl rfl (l_nil (e_then ?_)))
       refine c_keep [4, 5] (.cons rfl (.cons rfl .nil)) ?_
       refine c_ret ?_
       refine e_done2 Tryd.results21 rfl rfl ?_
       refine ⟨_, rfl, ?_⟩
       have hw49 := St.front1 hw48
       try clear hw48
       have hw50 := St.del (.tail (.tail (.tail .head))) hw49
       try clear hw49
       have hw51 := St.del (.tail (.tail .head)) hw50
       try clear hw50
       have hw52 := St.del (.tail .head) hw51
       try clear hw51
       refine ⟨_, 0, _, rfl, ⟨he0 ▸ hB.1, fun h => absurd rfl h, fun _ => ⟨d, shT m x, hk, hltS, ?_, fun h => absurd h (by omega), fun h1 h2 => ⟨m, x, hDig, rfl⟩⟩⟩, hw52.grows⟩
       rw [wdT_fin hfin, htS]
       unfold shT
       rw [if_neg hc3, if_neg (by omega), if_pos (by omega), Int.toNat_of_nonneg (by omega)]
       all_goals simp
      ·skip
       refine c_seq (c_region (l_move rfl rfl rfl (l_move rfl rfl rfl ?_)))
       have hw53 := St.frontL (l := [_, _, _]) hw21
       simp only [List.cons_append, List.nil_append] at hw53
       try clear hw21
       have hw54 := St.frontL (l := [_, _, _]) hw53
       simp only [List.cons_append, List.nil_append] at hw54
       try clear hw53
       refine l_callF rfl rfl rfl Tryd.func26 rfl rfl (.cons rfl .nil) (putP lb vt (t) (by first | omega | (simp only [List.length_append, List.length_cons, List.length_nil]; omega)) vd (dtx m) (by first | (simp; done) | omega) w20 (St.rows (τ := [As.blk lb 52 [vt], As.rb 5 vt (t)]) hw54) (St.argR (τ := [As.blk lb 52 [vt], As.rb 5 vt (t)]) hw54 (A := As.iv vd (bys (dtx m))) (.head _) (R := fun w1 => IB w1 vd (dtx m)) (fun w1 h => h))) ?_
       rintro _ w55 ⟨v2, rfl, hX⟩
       have hw55 := hX _ _ _ _ hw54
       simp only [List.cons_append, List.nil_append] at hw55
       try clear hX hw54
       refine l_nil (e_then ?_)
       refine c_keep [6, 13, 15, 16] (.cons rfl (.cons rfl (.cons rfl (.cons rfl .nil)))) ?_
       refine c_region (l_move rfl rfl rfl (l_move rfl rfl rfl (l_move rfl rfl rfl ?_)))
       refine v_lenb rfl rfl Tryd.underlying25 rfl (by first | exact hw55.ibl mem0 | exact hw55.io mem1 | exact hw55.ii mem2 | exact hw55.ibl mem3 | assumption) ?_
       refine l_sub rfl rfl rfl rfl (w_i64 (by omega)) ?_
       have hw56 := St.frontL (l := [_]) hw55
       simp only [List.cons_append, List.nil_append] at hw56
       try clear hw55
       have hw57 := St.frontL (l := [_]) hw56
       simp only [List.cons_append, List.nil_append] at hw57
       try clear hw56
       refine l_callF rfl rfl rfl Tryd.func25 rfl rfl (.cons rfl .nil) (noughtsP lb v2 (t ++ dtx m) (by first | omega | (simp only [List.length_append, List.length_cons, List.length_nil]; omega)) ((((dtx m).length : Int) + x) - ((dtx m).length : Int)) (by omega) w55 (St.rows (τ := [As.blk lb 52 [v2], As.rb 5 v2 (t ++ dtx m)]) hw57)) ?_
       rintro _ w58 ⟨v3, rfl, hX⟩
       have hw58 := hX _ _ _ _ hw57
       simp only [List.cons_append, List.nil_append] at hw58
       try clear hX hw57
       refine l_nil ?_
       refine e_blk ?_
       refine e_then ?_
       refine c_keep [6] (.cons rfl .nil) ?_
       refine c_seq (c_region (l_move rfl rfl rfl (l_nilCheck rfl rfl rfl (l_field fo52_0 rfl rfl rfl ?_))))
       refine l_load_blk hw58 mem0 rfl rfl Tryd.underlying25 rfl rfl rfl ?_
       refine l_assign rfl rfl rfl (l_assign rfl rfl rfl (l_nil (e_then ?_)))
       refine c_keep [4, 5] (.cons rfl (.cons rfl .nil)) ?_
       refine c_ret ?_
       refine e_done2 Tryd.results21 rfl rfl ?_
       refine ⟨_, rfl, ?_⟩
       have hw59 := St.front1 hw58
       try clear hw58
       have hw60 := St.del (.tail (.tail (.tail .head))) hw59
       try clear hw59
       have hw61 := St.del (.tail (.tail .head)) hw60
       try clear hw60
       have hw62 := St.del (.tail .head) hw61
       try clear hw61
       refine ⟨_, 0, _, rfl, ⟨he0 ▸ hB.1, fun h => absurd rfl h, fun _ => ⟨d, shT m x, hk, hltS, ?_, fun h => absurd h (by omega), fun h1 h2 => ⟨m, x, hDig, rfl⟩⟩⟩, hw62.grows⟩
       rw [wdT_fin hfin, htS]
       unfold shT
       rw [if_neg hc3, if_neg (by omega), if_neg (by omega), show ((dtx m).length : Int) + x - ((dtx m).length : Int) = x by omega]
       all_goals simp
end Go.Proofs.YtojjlipcjdaejaaDoor.W
