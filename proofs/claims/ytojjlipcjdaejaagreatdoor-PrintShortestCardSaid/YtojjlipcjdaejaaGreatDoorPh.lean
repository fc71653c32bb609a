/- walks of the document's print: noughts, word, check, value, rounded -/
import Derived.Test.YtojjlipcjdaejaaGreatDoorPf
set_option linter.unusedVariables false
set_option linter.unusedSimpArgs false
set_option maxRecDepth 10000
namespace Go.Proofs.YtojjlipcjdaejaaGreatDoor.W
open Go.Vc Go.RowKit
theorem noughts11 (n : Int) (hn : n ≤ 30000) (w : World) :
  CallsV P 31 [.int .i64 n] w fun r w' => r = str (zsT n) ∧ w = w' := by
 refine enterW Tryz.func31 rfl Tryz.ntmps31 rfl ?_
 refine c_seq (c_region (l_assign rfl rfl rfl (l_nil (e_then ?_))))
 refine c_keep [0] (.cons rfl .nil) ?_
 refine c_seq (c_region (l_assign rfl rfl rfl (l_nil (e_then (c_seq ?_)))))
 refine c_seq (c_region (l_assign rfl rfl rfl (l_nil (e_then (c_block ?_)))))
 refine c_loopk (ι := Nat) (fun (k : Nat) => (n - k).toNat) (fun (k : Nat) (w' : World) => w = w' ∧ ((k : Int) ≤ n ∨ k = 0)) (fun (k : Nat) => [(3, str (List.replicate k 48)), (4, .int .i64 (k : Int))]) [0] (0) ?_ (.cons rfl .nil) ?_ ?_
 ·exact ⟨rfl, .inr rfl⟩
 ·exact (.cons rfl (by first | rfl | (refine congrArg (Value.int _) ?_; omega)) (.cons rfl (by first | rfl | (refine congrArg (Value.int _) ?_; omega)) .nil))
 rintro k _ ⟨rfl, hk⟩
 show RunC P _ _ _ (_ :: _) _
 have hkl : (List.replicate k (48 : UInt8)).length = k := List.length_replicate ..
 refine c_seq (c_seq (c_region (l_move rfl rfl rfl (l_move rfl rfl rfl ?_))))
 refine l_lss rfl rfl rfl rfl ?_
 refine l_nil (e_then ?_)
 refine c_keep [0, 3, 4, 7] (.cons rfl (.cons rfl (.cons rfl (.cons rfl .nil)))) ?_
 first | refine c_cond rfl (fun hc0 => ?_) (fun hc0 => ?_) | refine c_condb rfl (fun hc0 => ?_) (fun hc0 => ?_)
 ·skip
  refine c_skip (e_then ?_)
  refine c_keep [0, 3, 4] (.cons rfl (.cons rfl (.cons rfl .nil))) ?_
  refine c_seq (c_block (c_region (l_move rfl rfl rfl ?_)))
  refine l_adds rfl rfl rfl rfl (by first | omega | (simp only [List.length_append, List.length_cons, List.length_nil] at *; omega)) ?_
  refine l_assign rfl rfl rfl (l_nil ?_)
  refine e_blk ?_
  refine e_then ?_
  refine c_keep [0, 3, 4] (.cons rfl (.cons rfl (.cons rfl .nil))) ?_
  refine c_region (l_move rfl rfl rfl ?_)
  refine l_add rfl rfl rfl rfl (w_i64 (by omega)) ?_
  refine l_assign rfl rfl rfl (l_nil ?_)
  refine e_againk (i := (k)) (k + 1) ?_ ?_ (.cons rfl .nil) ?_
  ·first | omega | (simp; omega)
  ·exact ⟨rfl, .inl (by omega)⟩
  ·exact (.cons rfl (by exact congrArg str (List.replicate_succ' (n := k) (a := (48 : UInt8))).symm) (.cons rfl (by first | rfl | (refine congrArg (Value.int _) ?_; omega)) .nil))
 ·skip
  refine c_exit ?_
  refine e_then_exit ?_
  refine e_then_exit ?_
  refine e_blk_exit ?_
  refine e_then ?_
  refine c_keep [3] (.cons rfl .nil) ?_
  refine c_seq (c_region (l_move rfl rfl rfl (l_assign rfl rfl rfl (l_nil (e_then ?_)))))
  refine c_keep [2] (.cons rfl .nil) ?_
  refine c_ret ?_
  refine e_done1 Tryz.results31 rfl ?_
  refine ⟨_, rfl, ?_⟩
  obtain rfl : n.toNat = k := by omega
  exact ⟨rfl, rfl⟩
theorem word11 (k : Int) (d : Kd) (hk : kd k = some d) (b : Int) (hb : 0 ≤ b ∧ b < 2 * d.S) (w : World) :
  CallsV P 26 [.int .i64 k, .int .u64 b] w fun r w' => r = .tuple #[str (if d.I < b % d.S then [110, 97, 110] else if b % d.S = d.I then [105, 110, 102] else []), str (if d.I < b % d.S then [] else sgT d b)] ∧ Grow w w' [] := by
 refine enterW Tryz.func26 rfl Tryz.ntmps26 rfl ?_
 have hw0 := St.start w
 have hbd := d.bd
 have h9 := kd_9 hk
 have hms := mod_S d hb
 have hnan : cls d b = 5 ↔ d.I < b % d.S := by unfold cls; (repeat' split) <;> omega
 have hinf : cls d b = 4 ↔ b % d.S = d.I := by unfold cls; (repeat' split) <;> omega
 have hcl : clsF k b = (cls d b, 0) := ofk_ok hk (chk_some hk hb.2)
 refine c_seq (c_region (l_assign rfl rfl rfl (l_assign rfl rfl rfl (l_nil (e_then ?_)))))
 refine c_keep [0, 1] (.cons rfl (.cons rfl .nil)) ?_
 refine c_seq (c_region (l_assign rfl rfl rfl (l_nil (e_then ?_))))
 refine c_cutk (ι := List UInt8) (fun (s : List UInt8) (w' : World) => St w w.heap.size None' ([]) w' ∧ s = sgT d b) (fun (s : List UInt8) => [(6, str s)]) [0, 1] (.cons rfl (.cons rfl .nil)) ?_ ?_
 ·skip
  refine c_seq (c_region (l_move rfl rfl rfl (l_move rfl rfl rfl ?_)))
  refine l_callp rfl rfl Tryz.func57 rfl rfl (.cons rfl (.cons rfl .nil)) (inf3 k d hk true w) ?_
  refine l_move rfl rfl rfl ?_
  refine l_callp rfl rfl Tryz.func57 rfl rfl (.cons rfl (.cons rfl .nil)) (inf3 k d hk false w) ?_
  refine l_sub rfl rfl rfl rfl (show IntKind.u64.wrap (d.I + d.S - d.I) = d.S by rw [w_u64 (by omega)]; omega) ?_
  refine l_geq rfl rfl rfl rfl ?_
  refine l_nil (e_then ?_)
  refine c_keep [0, 1, 6, 15] (.cons rfl (.cons rfl (.cons rfl (.cons rfl .nil)))) ?_
  first | refine c_cond rfl (fun hc0 => ?_) (fun hc0 => ?_) | refine c_condb rfl (fun hc0 => ?_) (fun hc0 => ?_)
  ·skip
   refine c_region (l_assign rfl rfl rfl (l_nil ?_))
   refine e_meetk ([45]) ?_ (.cons rfl (.cons rfl .nil)) ?_
   ·exact ⟨hw0, by unfold sgT; rw [if_pos (by omega)]⟩
   ·exact (.cons rfl (by first | rfl | (refine congrArg (Value.int _) ?_; omega)) .nil)
  ·skip
   refine c_skip ?_
   refine e_meetk ([]) ?_ (.cons rfl (.cons rfl .nil)) ?_
   ·exact ⟨hw0, by unfold sgT; rw [if_neg (by omega)]⟩
   ·exact (.cons rfl (by first | rfl | (refine congrArg (Value.int _) ?_; omega)) .nil)
 rintro s w1 ⟨hw1, hs⟩
 show RunC P _ _ _ (_ :: _) _
 refine c_seq (c_seq (c_region (l_move rfl rfl rfl (l_move rfl rfl rfl ?_))))
 refine l_call rfl rfl Tryz.func58 rfl rfl (.cons rfl (.cons rfl .nil)) (class3 k b (by omega) w1) ?_
 rintro _ w2 ⟨rfl, hG⟩
 have hw2 := hG _ _ _ _ hw1
 try clear hG hw1
 simp only [List.cons_append, List.nil_append] at hw2
 rw [hcl]
 refine l_move rfl rfl rfl (l_extract rfl rfl rfl rfl (l_extract rfl rfl rfl rfl (l_assign rfl rfl rfl (l_assign rfl rfl rfl (l_nil ?_)))))
 refine e_then ?_
 refine c_keep [6, 7] (.cons rfl (.cons rfl .nil)) ?_
 refine c_seq (c_region (l_move rfl rfl rfl (l_nil (e_then ?_))))
 refine c_keep [6, 22] (.cons rfl (.cons rfl .nil)) ?_
 refine c_block (c_seq (c_region ?_))
 refine l_eql rfl rfl rfl rfl ?_
 refine l_assign rfl rfl rfl (l_nil (e_then ?_))
 refine c_keep [6, 22, 23] (.cons rfl (.cons rfl (.cons rfl .nil))) ?_
 first | refine c_cond rfl (fun hc1 => ?_) (fun hc1 => ?_) | refine c_condb rfl (fun hc1 => ?_) (fun hc1 => ?_)
 ·skip
  refine c_seq (c_region (l_assign rfl rfl rfl (l_assign rfl rfl rfl (l_nil (e_then ?_)))))
  refine c_keep [4, 5] (.cons rfl (.cons rfl .nil)) ?_
  refine c_ret ?_
  refine e_blk_ret ?_
  refine e_then_ret ?_
  refine e_done2 Tryz.results26 rfl rfl ?_
  refine ⟨_, rfl, ?_⟩
  refine ⟨?_, hw2.grows⟩
  rw [if_pos (by omega), if_pos (by omega)]
  all_goals rfl
 ·skip
  refine c_seq (c_region ?_)
  refine l_eql rfl rfl rfl rfl ?_
  refine l_assign rfl rfl rfl (l_nil (e_then ?_))
  refine c_keep [6, 25] (.cons rfl (.cons rfl .nil)) ?_
  first | refine c_cond rfl (fun hc2 => ?_) (fun hc2 => ?_) | refine c_condb rfl (fun hc2 => ?_) (fun hc2 => ?_)
  ·skip
   refine c_seq (c_region (l_move rfl rfl rfl (l_assign rfl rfl rfl (l_assign rfl rfl rfl (l_nil ?_)))))
   refine e_then ?_
   refine c_keep [4, 5] (.cons rfl (.cons rfl .nil)) ?_
   refine c_ret ?_
   refine e_blk_ret ?_
   refine e_then_ret ?_
   refine e_done2 Tryz.results26 rfl rfl ?_
   refine ⟨_, rfl, ?_⟩
   refine ⟨?_, hw2.grows⟩
   rw [if_neg (by omega), if_pos (by omega), if_neg (by omega), hs]
   all_goals rfl
  ·skip
   refine c_skip ?_
   refine e_blk ?_
   refine e_then ?_
   refine c_keep [6] (.cons rfl .nil) ?_
   refine c_seq (c_region (l_move rfl rfl rfl (l_assign rfl rfl rfl (l_assign rfl rfl rfl (l_nil ?_)))))
   refine e_then ?_
   refine c_keep [4, 5] (.cons rfl (.cons rfl .nil)) ?_
   refine c_ret ?_
   refine e_done2 Tryz.results26 rfl rfl ?_
   refine ⟨_, rfl, ?_⟩
   refine ⟨?_, hw2.grows⟩
   rw [if_neg (by omega), if_neg (by omega), if_neg (by omega), hs]
   all_goals rfl
end Go.Proofs.YtojjlipcjdaejaaGreatDoor.W
