/- walks of the document's print: noughts, word, check, value, rounded -/
import Derived.Test.YtojjlipcjdaejaaGreatDoorPf
set_option linter.unusedVariables false
set_option linter.unusedSimpArgs false
set_option maxRecDepth 10000
namespace Go.Proofs.YtojjlipcjdaejaaGreatDoor.W
open Go.Vc Go.RowKit
theorem noughts11 (n : Int) (hn : n ≤ 30000) (w : World) :
  CallsV P 31 [.int .i64 n] w fun r w' => r = str (zsT n) ∧ w = w' := by
 refine enterW Tryz.func31 rfl Tryz.ntmps31 rfl ?_
 refine c_seq (c_region (l_assign rfl rfl rfl (l_nil (e_then ?_))))
 refine c_keep [0] (.cons rfl .nil) ?_
 refine c_seq (c_region (l_assign rfl rfl rfl (l_nil (e_then (c_seq ?_)))))
 refine c_seq (c_region (l_assign rfl rfl rfl (l_nil (e_then (c_block ?_)))))
 refine c_loopk (ι := Nat) (fun (k : Nat) => (n - k).toNat) (fun (k : Nat) (w' : World) => w = w' ∧ ((k : Int) ≤ n ∨ k = 0)) (fun (k : Nat) => [(3, str (List.replicate k 48)), (4, .int .i64 (k : Int))]) [0] (0) ?_ (.cons rfl .nil) ?_ ?_
 ·exact ⟨rfl, .inr rfl⟩
 ·exact (.cons rfl (by first | rfl | (refine congrArg (Value.int _) ?_; omega)) (.cons rfl (by first | rfl | (refine congrArg (Value.int _) ?_; omega)) .nil))
 rintro k _ ⟨rfl, hk⟩
 show RunC P _ _ _ (_ :: _) _
 have hkl : (List.replicate k (48 : UInt8)).length = k := List.length_replicate ..
 refine c_seq (c_seq (c_region (l_move rfl rfl rfl (l_move rfl rfl rfl ?_))))
 refine l_lss rfl rfl rfl rfl ?_
 refine l_nil (e_then ?_)
 refine c_keep [0, 3, 4, 7] (.cons rfl (.cons rfl (.cons rfl (.cons rfl .nil)))) ?_
 first | refine c_cond rfl (fun hc0 => ?_) (fun hc0 => ?_) | refine c_condb rfl (fun hc0 => ?_) (fun hc0 => ?_)
 ·skip
  refine c_skip (e_then ?_)
  refine c_keep [0, 3, 4] (.cons rfl (.cons rfl (.cons rfl .nil))) ?_
  refine c_seq (c_block (c_region (l_move rfl rfl rfl ?_)))
  refine l_adds rfl rfl rfl rfl (by first | omega | (simp only [List.length_append, List.length_cons, List.length_nil] at *; omega)) ?_
  refine l_assign rfl rfl rfl (l_nil ?_)
  refine e_blk ?_
  refine e_then ?_
  refine c_keep [0, 3, 4] (.cons rfl (.cons rfl (.cons rfl .nil))) ?_
  refine c_region (l_move rfl rfl rfl ?_)
  refine l_add rfl rfl rfl rfl (w_i64 (by omega)) ?_
  refine l_assign rfl rfl rfl (l_nil ?_)
  refine e_againk (i := (k)) (k + 1) ?_ ?_ (.cons rfl .nil) ?_
  ·first | omega | (simp; omega)
  ·exact ⟨rfl, .inl (by omega)⟩
  ·exact (.cons rfl (by exact congrArg str (List.replicate_succ' (n := k) (a := (48 : UInt8))).symm) (.cons rfl (by first | rfl | (refine congrArg (Value.int _) ?_; omega)) .nil))
 ·skip
  refine c_exit ?_
  refine e_then_exit ?_
  refine e_then_exit ?_
  refine e_blk_exit ?_
  refine e_then ?_
  refine c_keep [3] (.cons rfl .nil) ?_
  refine c_seq (c_region (l_move rfl rfl rfl (l_assign rfl rfl rfl (l_nil (e_then ?_)))))
  refine c_keep [2] (.cons rfl .nil) ?_
  refine c_ret ?_
  refine e_done1 Tryz.results31 rfl ?_
  refine ⟨_, rfl, ?_⟩
  obtain rfl : n.toNat = k := by omega
  exact ⟨rfl, rfl⟩
theorem word11 (k : Int) (d : Kd) (hk : kd k = some d) (b : Int) (hb : 0 ≤ b ∧ b < 2 * d.S) (w : World) :
  CallsV P 26 [.int .i64 k, .int .u64 b] w fun r w' => r = .tuple #[str (if d.I < b % d.S then [110, 97, 110] else if b % d.S = d.I then [105, 110, 102] else []), str (if d.I < b % d.S then [] else sgT d b)] ∧ Grow w w' [] := by
 refine enterW Tryz.func26 rfl Tryz.ntmps26 rfl ?_
 have hw0 := St.start w
 have hbd := d.bd
 have h9 := kd_9 hk
 have hms := mod_S d hb
 have hnan : cls d b = 5 ↔ d.I < b % d.S := by unfold cls; (repeat' split) <;> omega
 have hinf : cls d b = 4 ↔ b % d.S = d.I := by unfold cls; (repeat' split) <;> omega
 have hcl : clsF k b = (cls d b, 0) := ofk_ok hk (chk_some hk hb.2)
 refine c_seq (c_region (l_assign rfl rfl rfl (l_assign rfl rfl rfl (l_nil (e_then ?_)))))
 refine c_keep [0, 1] (.cons rfl (.cons rfl .nil)) ?_
 refine c_seq (c_region (l_assign rfl rfl rfl (l_nil (e_then ?_))))
 refine c_cutk (ι := List UInt8) (fun (s : List UInt8) (w' : World) => St w w.heap.size None' ([]) w' ∧ s = sgT d b) (fun (s : List UInt8) => [(6, str s)]) [0, 1] (.cons rfl (.cons rfl .nil)) ?_ ?_
 ·skip
  refine c_seq (c_region (l_move rfl rfl rfl (l_move rfl rfl rfl ?_)))
  refine l_callp rfl rfl Tryz.func57 rfl rfl (.cons rfl (.cons rfl .nil)) (inf3 k d hk true w) ?_
  refine l_move rfl rfl rfl ?_
  refine l_callp rfl rfl Tryz.func57 rfl rfl (.cons rfl (.cons rfl .nil)) (inf3 k d hk false w) ?_
  refine l_sub rfl rfl rfl rfl (show IntKind.u64.wrap (d.I + d.S - d.I) = d.S by rw [w_u64 (by omega)]; omega) ?_
  refine l_geq rfl rfl rfl rfl ?_
  refine l_nil (e_then ?_)
  refine c_keep [0, 1, 6, 15] (.cons rfl (.cons rfl (.cons rfl (.cons rfl .nil)))) ?_
  first | refine c_cond rfl (fun hc0 => ?_) (fun hc0 => ?_) | refine c_condb rfl (fun hc0 => ?_) (fun hc0 => ?_)
  ·skip
   refine c_region (l_assign rfl rfl rfl (l_nil ?_))
   refine e_meetk ([45]) ?_ (.cons rfl (.cons rfl .nil)) ?_
   ·exact ⟨hw0, by unfold sgT; rw [if_pos (by omega)]⟩
   ·exact (.cons rfl (by first | rfl | (refine congrArg (Value.int _) ?_; omega)) .nil)
  ·skip
   refine c_skip ?_
   refine e_meetk ([]) ?_ (.cons rfl (.cons rfl .nil)) ?_
   ·exact ⟨hw0, by unfold sgT; rw [if_neg (by omega)]⟩
   ·exact (.cons rfl (by first | rfl | (refine congrArg (Value.int _) ?_; omega)) .nil)
 rintro s w1 ⟨hw1, hs⟩
 show RunC P _ _ _ (_ :: _) _
 refine c_seq (c_seq (c_region (l_move rfl rfl rfl (l_move rfl rfl rfl ?_))))
 refine l_call rfl rfl Tryz.func58 rfl rfl (.cons rfl (.cons rfl .nil)) (class3 k b (by omega) w1) ?_
 rintro _ w2 ⟨rfl, hG⟩
 have hw2 := hG _ _ _ _ hw1
 try clear hG hw1
 simp only [List.cons_append, List.nil_append] at hw2
 rw [hcl]
 refine l_move rfl rfl rfl (l_extract rfl rfl rfl rfl (l_extract rfl rfl rfl rfl (l_assign rfl rfl rfl (l_assign rfl rfl rfl (l_nil ?_)))))
 refine e_then ?_
 refine c_keep [6, 7] (.cons rfl (.cons rfl .nil)) ?_
 refine c_seq (c_region (l_move rfl rfl rfl (l_nil (e_then ?_))))
 refine c_keep [6, 22] (.cons rfl (.cons rfl .nil)) ?_
 refine c_block (c_seq (c_region ?_))
 refine l_eql rfl rfl rfl rfl ?_
 refine l_assign rfl rfl rfl (l_nil (e_then ?_))
 refine c_keep [6, 22, 23] (.cons rfl (.cons rfl (.cons rfl .nil))) ?_
 first | refine c_cond rfl (fun hc1 => ?_) (fun hc1 => ?_) | refine c_condb rfl (fun hc1 => ?_) (fun hc1 => ?_)
 ·skip
  refine c_seq (c_region (l_assign rfl rfl rfl (l_assign rfl rfl rfl (l_nil (e_then ?_)))))
  refine c_keep [4, 5] (.cons rfl (.cons rfl .nil)) ?_
  refine c_ret ?_
  refine e_blk_ret ?_
  refine e_then_ret ?_
  refine e_done2 Tryz.results26 rfl rfl ?_
  refine ⟨_, rfl, ?_⟩
  refine ⟨?_, hw2.grows⟩
  rw [if_pos (by omega), if_pos (by omega)]
  all_goals rfl
 ·skip
  refine c_seq (c_region ?_)
  refine l_eql rfl rfl rfl rfl ?_
  refine l_assign rfl rfl rfl (l_nil (e_then ?_))
  refine c_keep [6, 25] (.cons rfl (.cons rfl .nil)) ?_
  first | refine c_cond rfl (fun hc2 => ?_) (fun hc2 => ?_) | refine c_condb rfl (fun hc2 => ?_) (fun hc2 => ?_)
  ·skip
   refine c_seq (c_region (l_move rfl rfl rfl (l_assign rfl rfl rfl (l_assign rfl rfl rfl (l_nil ?_)))))
   refine e_then ?_
   refine c_keep [4, 5] (.cons rfl (.cons rfl .nil)) ?_
   refine c_ret ?_
   refine e_blk_ret ?_
   refine e_then_ret ?_
   refine e_done2 Tryz.results26 rfl rfl ?_
   refine ⟨_, rfl, ?_⟩
   refine ⟨?_, hw2.grows⟩
   rw [if_neg (by omega), if_pos (by omega), if_neg (by omega), hs]
   all_goals rfl
  ·skip
   refine c_skip ?_
   refine e_blk ?_
   refine e_then ?_
   refine c_keep [6] (.cons rfl .nil) ?_
   refine c_seq (c_region (l_move rfl rfl rfl (l_assign rfl rfl rfl (l_assign rfl rfl rfl (l_nil ?_)))))
   refine e_then ?_
   refine c_keep [4, 5] (.cons rfl (.cons rfl .nil)) ?_
   refine c_ret ?_
   refine e_done2 Tryz.results26 rfl rfl ?_
   refine ⟨_, rfl, ?_⟩
   refine ⟨?_, hw2.grows⟩
   rw [if_neg (by omega), if_neg (by omega), if_neg (by omega), hs]
   all_goals rfl
theorem check11 (k b : Int) (hb : 0 ≤ b ∧ b ≤ 18446744073709551615) (n : Int) (w : World) :
  CallsV P 39 [.int .i64 k, .int .u64 b, .int .i64 n] w fun r w' => r = .int .i64 (askE k b n) ∧ w = w' := by
 refine enterW Tryz.func39 rfl Tryz.ntmps39 rfl ?_
 have hcc := clsF_chk k b hb
 refine c_seq (c_region (l_assign rfl rfl rfl (l_nil (e_then ?_))))
 refine c_keep [0, 1, 2] (.cons rfl (.cons rfl (.cons rfl .nil))) ?_
 refine c_seq (c_seq (c_region (l_move rfl rfl rfl (l_move rfl rfl rfl ?_))))
 refine l_callp rfl rfl Tryz.func25 rfl rfl (.cons rfl (.cons rfl .nil)) (check3 k b hb w) ?_
 refine l_assign rfl rfl rfl (l_nil (e_then ?_))
 refine c_keep [2, 7] (.cons rfl (.cons rfl .nil)) ?_
 refine c_seq (c_region (l_move rfl rfl rfl ?_))
 refine l_neq rfl rfl rfl rfl ?_
 refine l_nil (e_then ?_)
 refine c_keep [2, 7, 12] (.cons rfl (.cons rfl (.cons rfl .nil))) ?_
 first | refine c_cond rfl (fun hc0 => ?_) (fun hc0 => ?_) | refine c_condb rfl (fun hc0 => ?_) (fun hc0 => ?_)
 ·skip
  refine c_seq (c_region (l_move rfl rfl rfl (l_assign rfl rfl rfl (l_nil (e_then ?_)))))
  refine c_keep [6] (.cons rfl .nil) ?_
  refine c_ret ?_
  refine e_then_ret ?_
  refine e_done1 Tryz.results39 rfl ?_
  refine ⟨_, rfl, ?_⟩
  exact ⟨congrArg (Value.int .i64) (by unfold askE; rw [if_neg (by omega)]; omega), rfl⟩
 ·skip
  refine c_skip (e_then ?_)
  refine c_keep [2] (.cons rfl .nil) ?_
  refine c_seq (c_seq (c_region (l_move rfl rfl rfl ?_)))
  refine l_lss rfl rfl rfl rfl ?_
  refine l_move rfl rfl rfl ?_
  apply l_or 2 [] rfl rfl (.cons rfl .nil) rfl rfl (fun _ => rfl) rfl rfl rfl
  ·intro hg4_3
   refine l_move rfl rfl rfl ?_
   refine l_gtr rfl rfl rfl rfl ?_
   refine l_nil ?_
   exact e_stays rfl (.cons rfl (congrArg Value.bool (decide_eq_false hg4_3).symm) .nil)
  refine l_nil (e_then ?_)
  refine c_keep [19] (.cons rfl .nil) ?_
  first | refine c_cond rfl (fun hc1 => ?_) (fun hc1 => ?_) | refine c_condb rfl (fun hc1 => ?_) (fun hc1 => ?_)
  ·skip
   refine c_seq (c_region (l_assign rfl rfl rfl (l_nil (e_then ?_))))
   refine c_keep [6] (.cons rfl .nil) ?_
   refine c_ret ?_
   refine e_then_ret ?_
   refine e_done1 Tryz.results39 rfl ?_
   refine ⟨_, rfl, ?_⟩
   exact ⟨congrArg (Value.int .i64) (by unfold askE; rw [if_pos (by omega), if_pos hc1]), rfl⟩
  ·skip
   refine c_skip (e_then ?_)
   refine c_keep [] .nil ?_
   refine c_seq (c_region (l_assign rfl rfl rfl (l_nil (e_then ?_))))
   refine c_ret ?_
   refine e_done1 Tryz.results39 rfl ?_
   refine ⟨_, rfl, ?_⟩
   exact ⟨congrArg (Value.int .i64) (by unfold askE; rw [if_pos (by omega), if_neg hc1]), rfl⟩
theorem value11 (k : Int) (d : Kd) (hk : kd k = some d) (b : Int) (hb : 0 ≤ b ∧ b < 2 * d.S) (hf : b % d.S < d.I) (w : World) :
  CallsV P 40 [.int .i64 k, .int .u64 b] w fun r w' => ∃ v1 l1 v2 l2, r = .tuple #[v1, v2] ∧ R16 l1 (fX d (b % d.S)) ∧ R16 l2 (fY d (b % d.S)) ∧ Grow w w' [As.ri 3 .i64 v2 l2, As.ri 3 .i64 v1 l1] := by
 refine enterW Tryz.func40 rfl Tryz.ntmps40 rfl ?_
 have hw0 := St.start w
 have hbd := d.bd
 have hms := mod_S d hb
 have hspl := spl_any hk hb hf
 have hs := spl_bd (d := d) (b := b % d.S) (by omega)
 refine c_seq (c_region (l_assign rfl rfl rfl (l_assign rfl rfl rfl (l_nil (e_then ?_)))))
 refine c_keep [0, 1] (.cons rfl (.cons rfl .nil)) ?_
 refine c_seq (c_region (l_move rfl rfl rfl (l_move rfl rfl rfl ?_)))
 refine l_call rfl rfl Tryz.func75 rfl rfl (.cons rfl (.cons rfl .nil)) (split3 k b (by omega) w) ?_
 rintro _ w1 ⟨rfl, hG⟩
 have hw1 := hG _ _ _ _ hw0
 try clear hG hw0
 simp only [List.cons_append, List.nil_append] at hw1
 rw [hspl]
 refine l_move rfl rfl rfl (l_extract rfl rfl rfl rfl (l_extract rfl rfl rfl rfl ?_))
 refine l_alloc hw1 ta47 rfl rfl (fun b1_6 w2 hw2 => ?_)
 try clear hw1
 refine l_store_blks hw2 .head (.zero (.zero (.zero .nil))) rfl tz47 rfl rfl (by first | (simp [Value.oneCell']; done) | (intro u hu; simp only [List.mem_cons, List.not_mem_nil, or_false] at hu; rcases hu with rfl | rfl | rfl <;> first | rfl | assumption)) (fun w3 hw3 => ?_)
 try clear hw2
 refine l_assign rfl rfl rfl (l_nil (e_then ?_))
 refine c_keep [6] (.cons rfl .nil) ?_
 refine c_seq (c_region ?_)
 refine l_load_agg hw3 mem0 rfl rfl Tryz.underlying47 rfl tz47 rfl (.take (.take (.take .nil))) ?_
 refine l_call rfl rfl Tryz.func76 rfl rfl (.cons rfl .nil) (frac10 (decide (d.S ≤ b)) (splM d (b % d.S)) (splE d (b % d.S)) (by omega) (by omega) w3) ?_
 rintro _ w4 ⟨v1, l1, v2, l2, rfl, hR1, hR2, hG⟩
 have hw4 := hG _ _ _ _ hw3
 try clear hG hw3
 simp only [List.cons_append, List.nil_append] at hw4
 refine l_extract rfl rfl rfl rfl (l_extract rfl rfl rfl rfl (l_assign rfl rfl rfl (l_assign rfl rfl rfl (l_nil (e_then ?_)))))
 refine c_keep [4, 5] (.cons rfl (.cons rfl .nil)) ?_
 refine c_ret ?_
 refine e_done2 Tryz.results40 rfl rfl ?_
 refine ⟨_, rfl, ?_⟩
 have hw5 := St.front1 hw4
 try clear hw4
 have hw6 := St.front1 hw5
 try clear hw5
 have hw7 := St.del (.tail (.tail .head)) hw6
 try clear hw6
 exact ⟨_, _, _, _, rfl, hR1, hR2, hw7.grows⟩
theorem rounded11 (vx vy : Value) (lx ly : List Int) (x y : Int) (hRx : R16 lx x) (hRy : R16 ly y) (hLx : lx.length ≤ 4096) (hLy : ly.length ≤ 4096) (hy0 : 0 < y) (w : World) (hvx : IV w vx (ints .i64 lx)) (hvy : IV w vy (ints .i64 ly)) :
  CallsV P 41 [vx, vy] w fun r w' => ∃ v l, r = v ∧ R16 l (rnE x y) ∧ Grow w w' [As.ri 3 .i64 v l] := by
 refine enterW Tryz.func41 rfl Tryz.ntmps41 rfl ?_
 have hw0 := St.start w
 have hx0 := hRx.nonneg (by omega)
 have hq0 : 0 ≤ x / y := Int.ediv_nonneg hx0 (Int.le_of_lt hy0)
 have hr0 := Int.emod_nonneg x (show y ≠ 0 by omega)
 have hr1 := Int.emod_lt_of_pos x hy0
 refine c_seq (c_region (l_assign rfl rfl rfl (l_nil (e_then ?_))))
 refine c_keep [0, 1] (.cons rfl (.cons rfl .nil)) ?_
 refine c_seq (c_region (l_move rfl rfl rfl (l_move rfl rfl rfl ?_)))
 refine l_call rfl rfl Tryz.func62 rfl rfl (.cons rfl (.cons rfl .nil)) (overR vx vy lx ly x y hRx hRy (by omega) (by omega) hy0 w (hw0.iarg hvx) (hw0.iarg hvy)) ?_
 rintro _ w1 ⟨vq, vr, lq, lr, rfl, hRq, hRr, hG⟩
 have hw1 := hG _ _ _ _ hw0
 try clear hG hw0
 simp only [List.cons_append, List.nil_append] at hw1
 have hlq := R16.len_mono hRq hRx (Int.ediv_le_self _ hx0)
 have hlr := R16.len_mono hRr hRy (Int.le_of_lt hr1)
 have hDq : Rg 0 65535 lq := hRq.d
 refine l_move rfl rfl rfl (l_extract rfl rfl rfl rfl (l_extract rfl rfl rfl rfl (l_assign rfl rfl rfl (l_assign rfl rfl rfl (l_nil ?_)))))
 refine e_then ?_
 refine c_keep [1, 5, 6] (.cons rfl (.cons rfl (.cons rfl .nil))) ?_
 refine c_seq (c_region (l_move rfl rfl rfl (l_move rfl rfl rfl ?_)))
 refine l_call rfl rfl Tryz.func63 rfl rfl (.cons rfl (.cons rfl .nil)) (sumR vr vr lr lr _ _ hRr hRr (by omega) (by omega) w1 (hw1.io mem1) (hw1.io mem1)) ?_
 rintro vs w2 ⟨_, ls, rfl, hRs, hG⟩
 have hw2 := hG _ _ _ _ hw1
 try clear hG hw1
 simp only [List.cons_append, List.nil_append] at hw2
 have hRs2 : R16 ls (2 * (x % y)) := by rw [Int.two_mul]; exact hRs
 have hbs := hRs2.len (k := 65600) (by have h1 := hRr.blen; have := blen_mul (x := x % y) (y := 2) hr0 (by omega) (m := 65536) (n := 2) (by omega) (by decide); rw [Int.mul_comm] at this; omega)
 refine l_move rfl rfl rfl ?_
 refine l_call rfl rfl Tryz.func65 rfl rfl (.cons rfl (.cons rfl .nil)) (cmpR _ _ _ _ _ _ hRs hRy (by omega) (by omega) w2 (hw2.io mem0) (hw2.iarg hvy)) ?_
 rintro _ w3 ⟨rfl, hG⟩
 have hw3 := hG _ _ _ _ hw2
 try clear hG hw2
 simp only [List.cons_append, List.nil_append] at hw3
 refine l_turn (s := 18) (v' := .int .i64 (cmpI (2 * (x % y)) y)) rfl (congrArg (Value.int .i64) (by rw [Int.two_mul])) ?_
 refine l_assign rfl rfl rfl (l_nil (e_then ?_))
 refine c_keep [5, 7] (.cons rfl (.cons rfl .nil)) ?_
 refine c_seq (c_seq (c_region (l_move rfl rfl rfl ?_)))
 refine l_gtr rfl rfl rfl rfl ?_
 refine l_move rfl rfl rfl ?_
 apply l_or (q := (cmpI (2 * (x % y)) y = 0 ∧ (0 : Int) < (lq.length : Int)) ∧ lq.getD 0 0 % 2 = 1) 14 [5] rfl rfl (.cons rfl (.cons rfl .nil)) rfl rfl (fun _ => rfl) rfl rfl rfl
 ·intro hg3_3
  refine l_move rfl rfl rfl ?_
  refine l_eql rfl rfl rfl rfl ?_
  refine l_move rfl rfl rfl ?_
  apply l_and (q := (0 : Int) < (lq.length : Int)) 3 [5, 21] rfl rfl (.cons rfl (.cons rfl (.cons rfl .nil))) rfl rfl (fun _ => rfl) rfl rfl rfl
  ·intro hg3_6
   refine l_move rfl rfl rfl ?_
   refine v_leni rfl rfl Tryz.underlying64 rfl (by first | exact hw3.io mem0 | exact hw3.io mem1 | exact hw3.io mem2 | exact hw3.iarg hvx | exact hw3.iarg hvy | assumption) ?_
   refine l_gtr rfl rfl rfl rfl ?_
   refine l_nil ?_
   exact e_stays rfl (.cons rfl (congrArg Value.bool (decide_eq_true hg3_6).symm) (.cons rfl rfl (.cons rfl rfl .nil)))
   all_goals infer_instance
  refine l_move rfl rfl rfl ?_
  apply l_and (q := lq.getD 0 0 % 2 = 1) 5 [5, 21] rfl rfl (.cons rfl (.cons rfl (.cons rfl .nil))) rfl rfl (fun _ => rfl) rfl rfl rfl
  ·intro hg3_11
   refine l_move rfl rfl rfl ?_
   refine v_getr (j := 0) rfl rfl rfl rfl Tryz.underlying64 tz3 Tryz.underlying3 rfl rfl (by first | exact hw3.io mem0 | exact hw3.io mem1 | exact hw3.io mem2 | exact hw3.iarg hvx | exact hw3.iarg hvy | assumption) (by assumption) rfl (by omega) (by first | omega | (simp; done) | (simp; omega)) (fun hb3_12 => ?_)
   refine l_rem rfl rfl rfl rfl (by omega) (r_pos (by omega)) ?_
   refine l_eql rfl rfl rfl rfl ?_
   refine l_nil ?_
   exact e_stays rfl (.cons rfl (congrArg Value.bool (decide_eq_true hg3_11).symm) (.cons rfl rfl (.cons rfl rfl .nil)))
   all_goals infer_instance
  refine l_nil ?_
  exact e_stays rfl (.cons rfl (congrArg Value.bool (decide_eq_false hg3_3).symm) (.cons rfl rfl .nil))
  all_goals infer_instance
 refine l_nil (e_then ?_)
 refine c_keep [5, 36] (.cons rfl (.cons rfl .nil)) ?_
 first | refine c_cond rfl (fun hc0 => ?_) (fun hc0 => ?_) | refine c_condb rfl (fun hc0 => ?_) (fun hc0 => ?_)
 ·skip
  refine c_seq (c_region (l_move rfl rfl rfl ?_))
  refine v_lit hw3 rfl rfl Tryz.underlying64 ti3 rfl (.cons rfl (by first | rfl | assumption) .nil) rfl rfl rfl (fun b4_1 w4 hw4 => ?_)
  try clear hw3
  refine l_call rfl rfl Tryz.func63 rfl rfl (.cons rfl (.cons rfl .nil)) (sumR vq _ lq [1] _ 1 hRq R16.one1 (by omega) (by simp) w4 (hw4.io mem2) (hw4.ibl mem0)) ?_
  rintro vup w5 ⟨_, lup, rfl, hRu, hG⟩
  have hw5 := hG _ _ _ _ hw4
  try clear hG hw4
  simp only [List.cons_append, List.nil_append] at hw5
  refine l_assign rfl rfl rfl (l_nil (e_then ?_))
  refine c_keep [4] (.cons rfl .nil) ?_
  refine c_ret ?_
  refine e_then_ret ?_
  refine e_done1 Tryz.results41 rfl ?_
  refine ⟨_, rfl, ?_⟩
  have hw6 := St.front3 hw5
  try clear hw5
  have hw7 := St.front1 hw6
  try clear hw6
  have hw8 := St.del (.tail (.tail (.tail (.tail .head)))) hw7
  try clear hw7
  have hw9 := St.del (.tail (.tail (.tail .head))) hw8
  try clear hw8
  have hw10 := St.del (.tail (.tail .head)) hw9
  try clear hw9
  have hw11 := St.del (.tail .head) hw10
  try clear hw10
  exact ⟨_, _, rfl, by unfold rnE; rw [if_pos (by have := odd16 hRq; omega)]; exact hRu, hw11.grows⟩
 ·skip
  refine c_skip (e_then ?_)
  refine c_keep [5] (.cons rfl .nil) ?_
  refine c_seq (c_region (l_move rfl rfl rfl (l_assign rfl rfl rfl (l_nil (e_then ?_)))))
  refine c_keep [4] (.cons rfl .nil) ?_
  refine c_ret ?_
  refine e_done1 Tryz.results41 rfl ?_
  refine ⟨_, rfl, ?_⟩
  have hw12 := St.front1 hw3
  try clear hw3
  have hw13 := St.del (.tail (.tail .head)) hw12
  try clear hw12
  have hw14 := St.del (.tail .head) hw13
  try clear hw13
  exact ⟨_, _, rfl, by unfold rnE; rw [if_neg (fun h => hc0 (by have := odd16 hRq; rcases h with h | h; exact .inl h; exact .inr ⟨⟨h.1, by omega⟩, by omega⟩))]; exact hRq, hw14.grows⟩
theorem rn_blen {d : Kd} {b e : Int} (hb : 0 ≤ b ∧ b < d.I) (he : -420 ≤ e ∧ e ≤ 420) : Ma.blen (rnE (fN (fX d b) (-e)) (fD (fY d b) (-e))) ≤ (2900 : Nat) := by
 have hxy := fX_blen hb
 have hD0 := fD_pos (fY_pos d b) (-e)
 have hN0 := fN_nonneg hxy.1 (-e)
 have hNb := fN_blen hxy.1 (e := -e) (by omega) (by omega)
 have hQ0 : 0 ≤ fN (fX d b) (-e) / fD (fY d b) (-e) := Int.ediv_nonneg hN0 (Int.le_of_lt hD0)
 have hQ1 := Int.ediv_le_self (fD (fY d b) (-e)) hN0
 have h1 := (Ma.blen_le_iff hN0 2881).1 hNb
 have h2 := Ma.pow_mono (show (1 : Int) ≤ 2 by omega) (show 2882 ≤ 2900 by omega)
 have h3 : (2 : Int) ^ 2882 = 2 ^ 2881 * 2 := Int.pow_succ ..
 have h4 := p2_ 2881
 have hr := rnE_bd (N := fN (fX d b) (-e)) (D := fD (fY d b) (-e))
 exact (Ma.blen_le_iff (by omega) 2900).2 (by omega)
theorem askE_0 {k b n : Int} (h : askE k b n = 0) : (clsF k b).2 = 0 ∧ 0 ≤ n ∧ n ≤ 40 := by
 unfold askE at h
 split at h
 ·rename_i h1
  split at h
  ·omega
  ·exact ⟨h1, by omega, by omega⟩
 ·contradiction
end Go.Proofs.YtojjlipcjdaejaaGreatDoor.W
