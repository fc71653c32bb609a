/- walk of the law PrintShortest -/
import Derived.Test.YtojjlipcjdaejaaGreatDoorPl
import Derived.Test.YtojjlipcjdaejaaGreatDoorPn
import Derived.Test.YtojjlipcjdaejaaGreatDoorLy
set_option linter.unusedVariables false
set_option linter.unusedSimpArgs false
set_option maxRecDepth 10000
namespace Go.Proofs.YtojjlipcjdaejaaGreatDoor.W
open Go.Vc Go.RowKit
theorem ShT.len {k b e : Int} {t : List UInt8} (h : ShT k b e t) (hb : 0 ≤ b) : t.length ≤ 1000 := by
 by_cases h0 : e = 0
 ·obtain ⟨d, body, hd, _, h1, h2, h3⟩ := h.2.2 h0
  have hbd := d.bd
  have hm := Int.emod_nonneg b (show d.S ≠ 0 by omega)
  have hsg : (sgT d b).length ≤ 1 := by unfold sgT; split <;> simp
  rw [h1]
  unfold wdT
  split
  ·simp
  ·split
   ·simp; omega
   ·rename_i hc1 hc2
    rcases Int.lt_or_eq_of_le hm with h5 | h5
    ·obtain ⟨m, x, hD, e1⟩ := h3 h5 (by omega)
     have hbd2 := hD.bd ⟨h5, by omega⟩
     have hml := dtx_le (x := m) (by omega)
     rw [e1, List.length_append]
     unfold shT
     have hpt : ∀ n, (ptT (dtx m) n).length ≤ 50 := fun n => by unfold ptT; split <;> simp <;> omega
     have hz : ∀ n : Int, (zsT n).length = n.toNat := fun n => by unfold zsT; rw [List.length_replicate]
     split
     ·have hil := itoaT_len (n := ((dtx m).length : Int) + x - 1) (by omega)
      have := hpt 1
      unfold exT
      simp only [List.length_append, List.length_cons]
      omega
     ·split
      ·have := hz (-(((dtx m).length : Int) + x))
       simp only [List.length_append, List.length_cons, List.length_nil]
       omega
      ·split
       ·have := hpt (((dtx m).length : Int) + x)
        omega
       ·have := hz x
        simp only [List.length_append]
        omega
    ·rw [h2 h5.symm]
     simp
     omega
 ·rw [h.2.1 h0]
  simp
theorem printShortestL (n b : Int) (hn : -9223372036854775808 ≤ n ∧ n ≤ 9223372036854775807) (hb : 0 ≤ b ∧ b ≤ 18446744073709551615) (w : World) (hT : TabP w) :
  CallsV P 3 [.int .i64 n, .int .u64 b] w fun r w' => r = .bool true ∧ Grow w w' [] := by
 refine enterW Tryz.func3 rfl Tryz.ntmps3 rfl ?_
 have hw0 := St.start w
 refine c_seq (c_region (l_assign rfl rfl rfl (l_nil (e_then ?_))))
 refine c_keep [0, 1] (.cons rfl (.cons rfl .nil)) ?_
 refine c_seq (c_region (l_move rfl rfl rfl ?_))
 refine l_call rfl rfl Tryz.func6 rfl rfl (.cons rfl .nil) (kindL11 n hn w) ?_
 rintro _ _ ⟨k, rfl, rfl⟩
 refine l_assign rfl rfl rfl (l_nil (e_then ?_))
 refine c_keep [1, 5] (.cons rfl (.cons rfl .nil)) ?_
 refine c_seq (c_region (l_move rfl rfl rfl (l_move rfl rfl rfl ?_)))
 refine l_call rfl rfl Tryz.func7 rfl rfl (.cons rfl (.cons rfl .nil)) (ShortestP k b hb w (tab_keep hT (fun k hk hf => hw0.ext.block k hk hf))) ?_
 rintro _ w1 ⟨va, e, t, rfl, hA, hG⟩
 have hw1 := hG _ _ _ _ hw0
 try clear hG hw0
 simp only [List.cons_append, List.nil_append] at hw1
 refine l_move rfl rfl rfl (l_extract rfl rfl rfl rfl (l_extract rfl rfl rfl rfl (l_assign rfl rfl rfl (l_assign rfl rfl rfl (l_nil ?_)))))
 refine e_then ?_
 refine c_keep [1, 5, 6, 7] (.cons rfl (.cons rfl (.cons rfl (.cons rfl .nil)))) ?_
 refine c_seq (c_region (l_move rfl rfl rfl (l_move rfl rfl rfl ?_)))
 refine l_call rfl rfl Tryz.func8 rfl rfl (.cons rfl (.cons rfl .nil)) (Shortest11 k b hb w1) ?_
 rintro _ w2 ⟨vb, e2, t2, rfl, hB, hG⟩
 have hw2 := hG _ _ _ _ hw1
 try clear hG hw1
 simp only [List.cons_append, List.nil_append] at hw2
 obtain ⟨rfl, rfl⟩ := hA.unique hb.1 hB
 refine l_move rfl rfl rfl (l_extract rfl rfl rfl rfl (l_extract rfl rfl rfl rfl (l_assign rfl rfl rfl (l_assign rfl rfl rfl (l_nil ?_)))))
 refine e_then ?_
 refine c_keep [1, 5, 6, 7, 8, 9] (.cons rfl (.cons rfl (.cons rfl (.cons rfl (.cons rfl (.cons rfl .nil)))))) ?_
 refine c_seq (c_region (l_move rfl rfl rfl (l_move rfl rfl rfl ?_)))
 refine l_call rfl rfl Tryz.func7 rfl rfl (.cons rfl (.cons rfl .nil)) (ShortestP k b hb w2 (tab_keep hT (fun k hk hf => hw2.ext.block k hk hf))) ?_
 rintro _ w3 ⟨vc, e3, t3, rfl, hC, hG⟩
 have hw3 := hG _ _ _ _ hw2
 try clear hG hw2
 simp only [List.cons_append, List.nil_append] at hw3
 obtain ⟨rfl, rfl⟩ := hA.unique hb.1 hC
 have htl := hA.len hb.1
 refine l_move rfl rfl rfl (l_extract rfl rfl rfl rfl (l_extract rfl rfl rfl rfl (l_assign rfl rfl rfl (l_assign rfl rfl rfl (l_nil ?_)))))
 refine e_then ?_
 refine c_keep [6, 7, 8, 9, 10] (.cons rfl (.cons rfl (.cons rfl (.cons rfl (.cons rfl .nil))))) ?_
 refine c_seq (c_seq (c_region (l_move rfl rfl rfl (l_move rfl rfl rfl ?_))))
 refine l_callp rfl rfl Tryz.func9 rfl rfl (.cons rfl (.cons rfl .nil)) (sameK va vb t t w3 (hw3.io mem2) (hw3.ii mem1)) ?_
 refine l_turn (s := 35) (v' := .bool true) rfl (by simp) ?_
 first | refine l_notd rfl rfl rfl ?_ | refine l_not rfl rfl rfl ?_
 refine l_turn (s := 36) (v' := .bool false) rfl (by rfl) ?_
 refine l_move rfl rfl rfl (l_move rfl rfl rfl ?_)
 refine l_callp rfl rfl Tryz.func10 rfl rfl (.cons rfl .nil) (numL11 _ _) ?_
 refine l_move rfl rfl rfl ?_
 refine l_neq rfl rfl rfl rfl ?_
 refine l_turn (s := 41) (v' := .bool false) rfl (by simp) ?_
 refine l_pick_f rfl rfl rfl rfl ?_
 refine l_turn (s := 42) (v' := .bool false) rfl (by rfl) ?_
 refine l_nil (e_then ?_)
 refine c_keep [6, 10, 42] (.cons rfl (.cons rfl (.cons rfl .nil))) ?_
 refine c_cond_f rfl rfl ?_
 refine c_skip (e_then ?_)
 refine c_keep [6, 10] (.cons rfl (.cons rfl .nil)) ?_
 refine c_seq (c_region ?_)
 refine l_buildS rfl rfl pl37 ta37 .nil ?_
 refine l_box hw3 rfl rfl rfl (fun b7_1 w4 hw4 => ?_)
 try clear hw3
 refine l_assign rfl rfl rfl (l_nil (e_then ?_))
 refine c_keep [6, 10, 12] (.cons rfl (.cons rfl (.cons rfl .nil))) ?_
 refine c_seq (c_region ?_)
 have hw5 := (((bag_nil (E := 5) (bag_nil (E := 5) hw4)).nil 24).nil 24).front4
 try clear hw4
 refine l_move rfl rfl rfl ?_
 have hw6 := St.frontL (l := [_, _, _, _, _, _, _]) hw5
 simp only [List.cons_append, List.nil_append] at hw6
 try clear hw5
 have hw7 := St.frontL (l := [_, _, _, _, _]) hw6
 simp only [List.cons_append, List.nil_append] at hw7
 try clear hw6
 have hw8 := St.frontL (l := [_, _, _, _, _]) hw7
 simp only [List.cons_append, List.nil_append] at hw8
 try clear hw7
 have hw9 := St.frontL (l := [_, _, _, _, _]) hw8
 simp only [List.cons_append, List.nil_append] at hw9
 try clear hw8
 have hw10 := St.frontL (l := [_, _, _, _, _]) hw9
 simp only [List.cons_append, List.nil_append] at hw10
 try clear hw9
 have hw11 := St.frontL (l := [_, _, _, _, _]) hw10
 simp only [List.cons_append, List.nil_append] at hw11
 try clear hw10
 refine l_move rfl rfl rfl ?_
 have hw12 := hw11.cast (show _ = As.blk b7_1 37 [(.slice none 0 0), (.slice none 0 0), .slice none 0 0, .slice none 0 0, .slice none 0 0, .slice none 0 0] :: As.ro 24 (.slice none 0 0) (([] : List (Value × List Int)).map (·.1)) :: As.ro 24 (.slice none 0 0) (([] : List (Value × List Int)).map (·.1)) :: As.bag 5 (([] : List (Value × List Int)).map fun p => (p.1, ints .u8 p.2)) :: As.bag 5 (([] : List (Value × List Int)).map fun p => (p.1, ints .u8 p.2)) :: As.ri 5 .u8 va (byN t) :: _ from by first | (rw [ri_rb]; done) | (rw [ri_rb]; rfl))
 try clear hw11
 refine l_call rfl rfl Tryz.func11 rfl rfl (.cons rfl (.cons rfl .nil)) (bookBytes b7_1 (.slice none 0 0) (.slice none 0 0) va [] [] (byN t) (byN_u t) (by rw [byN_len]; omega) (by simp) (by simp) w4 (St.rows (τ := book b7_1 (.slice none 0 0) (.slice none 0 0) [] [] ++ [As.ri 5 .u8 va (byN t)]) (σ := _) hw12)) ?_
 rintro _ w13 ⟨vw1, vm1, m1, rfl, hX⟩
 have hw13 := hX _ _ _ _ hw12
 simp only [book, List.cons_append, List.nil_append] at hw13
 try clear hX hw12
 refine l_nil (e_then ?_)
 refine c_keep [10, 12] (.cons rfl (.cons rfl .nil)) ?_
 refine c_seq (c_region (l_move rfl rfl rfl ?_))
 have hw14 := St.frontL (l := [_, _, _, _, _]) hw13
 simp only [List.cons_append, List.nil_append] at hw14
 try clear hw13
 have hw15 := St.frontL (l := [_, _, _, _, _]) hw14
 simp only [List.cons_append, List.nil_append] at hw15
 try clear hw14
 have hw16 := St.frontL (l := [_, _, _, _, _]) hw15
 simp only [List.cons_append, List.nil_append] at hw16
 try clear hw15
 have hw17 := St.frontL (l := [_, _, _, _, _]) hw16
 simp only [List.cons_append, List.nil_append] at hw17
 try clear hw16
 have hw18 := St.frontL (l := [_, _, _, _, _]) hw17
 simp only [List.cons_append, List.nil_append] at hw18
 try clear hw17
 have hw19 := St.frontL (l := [_, _, _, _, _]) hw18
 simp only [List.cons_append, List.nil_append] at hw19
 try clear hw18
 refine l_move rfl rfl rfl ?_
 have hw20 := hw19.cast (show _ = As.blk b7_1 37 [vw1, vm1, .slice none 0 0, .slice none 0 0, .slice none 0 0, .slice none 0 0] :: As.ro 24 vw1 ([(va, byN t)].map (·.1)) :: As.ro 24 vm1 ([(m1, byN t)].map (·.1)) :: As.bag 5 ([(va, byN t)].map fun p => (p.1, ints .u8 p.2)) :: As.bag 5 ([(m1, byN t)].map fun p => (p.1, ints .u8 p.2)) :: As.ri 5 .u8 vc (byN t) :: _ from by first | (rw [ri_rb]; done) | (rw [ri_rb]; rfl))
 try clear hw19
 refine l_call rfl rfl Tryz.func11 rfl rfl (.cons rfl (.cons rfl .nil)) (bookBytes b7_1 vw1 vm1 vc [(va, byN t)] [(m1, byN t)] (byN t) (byN_u t) (by rw [byN_len]; omega) (by simp) (by simp) w13 (St.rows (τ := book b7_1 vw1 vm1 [(va, byN t)] [(m1, byN t)] ++ [As.ri 5 .u8 vc (byN t)]) (σ := _) hw20)) ?_
 rintro _ w21 ⟨vw2, vm2, m2, rfl, hX⟩
 have hw21 := hX _ _ _ _ hw20
 simp only [book, List.cons_append, List.nil_append] at hw21
 try clear hX hw20
 refine l_nil (e_then ?_)
 refine c_keep [12] (.cons rfl .nil) ?_
 refine c_seq (c_region ?_)
 have hbk : ∀ i, i < ([(va, byN t)] ++ [(vc, byN t)]).length → (([(m1, byN t)] ++ [(m2, byN t)]).getD i (.bool true, [])).2 = (([(va, byN t)] ++ [(vc, byN t)]).getD i (.bool true, [])).2 ∧ U8 (([(va, byN t)] ++ [(vc, byN t)]).getD i (.bool true, [])).2 ∧ (([(va, byN t)] ++ [(vc, byN t)]).getD i (.bool true, [])).2.length ≤ 1099511627776 := by
  intro i hi
  have hl : (byN t).length ≤ 1099511627776 := by rw [byN_len]; omega
  rcases i with _ | _ | i
  ·exact ⟨rfl, byN_u t, hl⟩
  ·exact ⟨rfl, byN_u t, hl⟩
  ·exfalso
   simp only [List.length_append, List.length_cons, List.length_nil] at hi
   omega
 refine l_move rfl rfl rfl ?_
 refine l_call rfl rfl Tryz.func12 rfl rfl (.cons rfl .nil) (bookClose b7_1 vw2 vm2 ([(va, byN t)] ++ [(vc, byN t)]) ([(m1, byN t)] ++ [(m2, byN t)]) (by simp) rfl (fun i hi => hbk i hi |>.1) (fun i hi => hbk i hi |>.2.1) (fun i hi => hbk i hi |>.2.2) w21 (St.rows (τ := book b7_1 vw2 vm2 ([(va, byN t)] ++ [(vc, byN t)]) ([(m1, byN t)] ++ [(m2, byN t)])) (σ := _) hw21)) ?_
 rintro _ w22 ⟨rfl, hX⟩
 have hw22 := hX _ _ _ _ hw21
 simp only [List.nil_append] at hw22
 try clear hX hw21
 refine l_move rfl rfl rfl ?_
 refine l_turn (s := 53) (v' := .bool true) rfl (by rfl) ?_
 refine l_call rfl rfl Tryz.func13 rfl rfl .nil (wakesL11 w22 (tab_keep hT (fun k hk hf => hw22.ext.block k hk hf))) ?_
 rintro _ w23 ⟨rfl, hG⟩
 have hw23 := hG _ _ _ _ hw22
 try clear hG hw22
 simp only [List.cons_append, List.nil_append] at hw23
 refine l_pick_t rfl rfl rfl rfl ?_
 refine l_assign rfl rfl rfl (l_nil (e_then ?_))
 refine c_keep [4] (.cons rfl .nil) ?_
 refine c_ret ?_
 refine e_done1 Tryz.results3 rfl ?_
 refine ⟨_, rfl, ?_⟩
 have hw24 := St.del .head hw23
 try clear hw23
 exact ⟨rfl, hw24.grows⟩
end Go.Proofs.YtojjlipcjdaejaaGreatDoor.W
