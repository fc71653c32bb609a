/- walk of the law CachePlays -/
import Derived.Test.YtggdkplphfofkaaGreatCm
set_option linter.unusedVariables false
set_option linter.unusedSimpArgs false
set_option maxRecDepth 10000
namespace Go.Proofs.YtggdkplphfofkaaGreat.W
open Go.Vc Go.RowKit
def AskOk (w : World) (r : List Value) : Prop := ∃ (kd qq : Int) (A : Option Addr) (c : Nat) (ll : List Int) (ot : Bool), r = [.int .i64 kd, .int .i64 qq, .slice A (ints .i64 ll).length c, .bool ot] ∧ (-9223372036854775808 ≤ kd ∧ kd ≤ 9223372036854775807) ∧ (-9223372036854775808 ≤ qq ∧ qq ≤ 9223372036854775807) ∧ UI ll ∧ (ints .i64 ll).length ≤ c ∧ IV w (.slice A (ints .i64 ll).length c) (ints .i64 ll)
theorem AskOk.at {w : World} {rs : List (List Value)} (h : ∀ r ∈ rs, AskOk w r) (i : Nat) (hi : i < rs.length) : ∃ (kd qq : Int) (A : Option Addr) (c : Nat) (ll : List Int) (ot : Bool), rs[i]? = some [.int .i64 kd, .int .i64 qq, .slice A (ints .i64 ll).length c, .bool ot] ∧ (-9223372036854775808 ≤ kd ∧ kd ≤ 9223372036854775807) ∧ (-9223372036854775808 ≤ qq ∧ qq ≤ 9223372036854775807) ∧ UI ll ∧ (ints .i64 ll).length ≤ c ∧ IV w (.slice A (ints .i64 ll).length c) (ints .i64 ll) := by
 obtain ⟨kd, qq, A, c, ll, ot, e, h1⟩ := h _ (List.getElem_mem hi)
 exact ⟨kd, qq, A, c, ll, ot, by rw [List.getElem?_eq_getElem hi, e], h1⟩
theorem AskOk.rows {w : World} {rs : List (List Value)} (h : ∀ r ∈ rs, AskOk w r) : Rows_ 4 rs := fun r hr => by
 obtain ⟨kd, qq, A, c, ll, ot, rfl, _⟩ := h r hr
 exact ⟨rfl, by simp [Value.oneCell']⟩
theorem TwZ : Tw (List.replicate 41 none) (List.replicate 41 false) := ⟨List.length_replicate .., List.length_replicate .., fun t ht => by
 have h := has0 t
 rw [h]
 simp only [List.getD_eq_getElem?_getD, List.getElem?_replicate]
 split <;> rfl⟩
theorem cachePlaysL (v : Value) (rs : List (List Value)) (w : World) (hv : IK w 4 v rs) (hrs : ∀ r ∈ rs, AskOk w r) :
  CallsV P 3 [v] w fun r w' => r = .bool true ∧ Grow w w' [] := by
 refine enterW Tryz.func3 rfl Tryz.ntmps3 rfl ?_
 have hw0 := St.start w
 have hR4 := AskOk.rows hrs
 refine c_seq (c_region (l_assign rfl rfl rfl (l_nil (e_then ?_))))
 refine c_keep [0] (.cons rfl .nil) ?_
 refine c_seq (c_region ?_)
 refine l_call rfl rfl Tryz.func4 rfl rfl .nil (newC w) ?_
 rintro _ w1 ⟨k0, rfl, hG⟩
 have hw1 := hG _ _ _ _ hw0
 try clear hG hw0
 simp only [List.cons_append, List.nil_append] at hw1
 refine l_call rfl rfl Tryz.func4 rfl rfl .nil (newC w1) ?_
 rintro _ w2 ⟨k1, rfl, hG⟩
 have hw2 := hG _ _ _ _ hw1
 try clear hG hw1
 simp only [List.cons_append, List.nil_append] at hw2
 refine v_lit hw2 rfl rfl Tryz.underlying25 ti23 rfl (.cons rfl (by first | rfl | assumption) (.cons rfl (by first | rfl | assumption) .nil)) rfl rfl rfl (fun b1_2 w3 hw3 => ?_)
 try clear hw2
 refine l_assign rfl rfl rfl (l_nil (e_then ?_))
 refine c_keep [0, 3] (.cons rfl (.cons rfl .nil)) ?_
 refine c_seq (c_region ?_)
 refine l_buildS rfl rfl pl29 ta29 .nil ?_
 refine l_box hw3 rfl rfl rfl (fun b2_1 w4 hw4 => ?_)
 try clear hw3
 refine l_buildS rfl rfl pl29 ta29 .nil ?_
 refine l_box hw4 rfl rfl rfl (fun b2_3 w5 hw5 => ?_)
 try clear hw4
 refine v_lit hw5 rfl rfl Tryz.underlying30 ti26 rfl (.cons rfl (by first | rfl | assumption) (.cons rfl (by first | rfl | assumption) .nil)) rfl rfl rfl (fun b2_4 w6 hw6 => ?_)
 try clear hw5
 refine l_assign rfl rfl rfl (l_nil (e_then ?_))
 refine c_keep [0, 3, 4] (.cons rfl (.cons rfl (.cons rfl .nil))) ?_
 refine c_seq (c_seq (c_region (l_move rfl rfl rfl ?_)))
 refine v_get rfl rfl rfl rfl Tryz.underlying25 tz23 Tryz.underlying23 rfl rfl rfl (by first | exact hw6.ibl mem0 | exact hw6.ibl mem1 | exact hw6.ibl mem2 | exact hw6.ibl mem3 | exact hw6.ibl mem4 | exact hw6.ibl mem6 | exact hw6.ikarg hv | assumption) (by first | omega | (simp; done) | (simp; omega)) (show ([.pointer (some ⟨k0, 0, none⟩), .pointer (some ⟨k1, 0, none⟩)] : List Value)[0]? = some (.pointer (some ⟨k0, 0, none⟩)) from rfl) ?_ rfl
 refine l_eqlp (by kernel_rfl) rfl rfl rfl rfl ?_
 refine l_turn (s := 20) (v' := .bool false) rfl (by rfl) ?_
 refine l_move rfl rfl rfl (l_move rfl rfl rfl ?_)
 refine v_get rfl rfl rfl rfl Tryz.underlying25 tz23 Tryz.underlying23 rfl rfl rfl (by first | exact hw6.ibl mem0 | exact hw6.ibl mem1 | exact hw6.ibl mem2 | exact hw6.ibl mem3 | exact hw6.ibl mem4 | exact hw6.ibl mem6 | exact hw6.ikarg hv | assumption) (by first | omega | (simp; done) | (simp; omega)) (show ([.pointer (some ⟨k0, 0, none⟩), .pointer (some ⟨k1, 0, none⟩)] : List Value)[1]? = some (.pointer (some ⟨k1, 0, none⟩)) from rfl) ?_ rfl
 refine l_eqlp (by kernel_rfl) rfl rfl rfl rfl ?_
 refine l_turn (s := 25) (v' := .bool false) rfl (by rfl) ?_
 refine l_pick_f rfl rfl rfl rfl ?_
 refine l_move rfl rfl rfl ?_
 refine l_call rfl rfl Tryz.func5 rfl rfl .nil (wakesL7 w6) ?_
 rintro _ w7 ⟨rfl, hG⟩
 have hw7 := hG _ _ _ _ hw6
 try clear hG hw6
 simp only [List.cons_append, List.nil_append] at hw7
 refine l_turn (s := 28) (v' := .bool true) rfl (by rfl) ?_
 first | refine l_notd rfl rfl rfl ?_ | refine l_not rfl rfl rfl ?_
 refine l_turn (s := 29) (v' := .bool false) rfl (by rfl) ?_
 refine l_pick_f rfl rfl rfl rfl ?_
 refine l_nil (e_then ?_)
 refine c_keep [0, 3, 4, 30] (.cons rfl (.cons rfl (.cons rfl (.cons rfl .nil)))) ?_
 refine c_cond_f rfl rfl ?_
 refine c_skip (e_then ?_)
 refine c_keep [0, 3, 4] (.cons rfl (.cons rfl (.cons rfl .nil))) ?_
 refine c_seq (c_seq (c_region ?_))
 have hw8 := St.frontL (l := [_, _, _]) hw7
 simp only [List.cons_append, List.nil_append] at hw8
 try clear hw7
 have hw9 := St.frontL (l := [_]) hw8
 simp only [List.cons_append, List.nil_append] at hw9
 try clear hw8
 have hw10 := St.frontL (l := [_, _]) hw9
 simp only [List.cons_append, List.nil_append] at hw10
 try clear hw9
 have hw11 := St.frontL (l := [_, _, _, _, _]) hw10
 simp only [List.cons_append, List.nil_append] at hw11
 try clear hw10
 have hw12 := St.frontL (l := [_, _, _, _, _]) hw11
 simp only [List.cons_append, List.nil_append] at hw12
 try clear hw11
 have hw13 := St.frontL (l := [_, _, _, _, _]) hw12
 simp only [List.cons_append, List.nil_append] at hw13
 try clear hw12
 have hw14 := St.frontL (l := [_, _, _, _, _, _, _]) hw13
 simp only [List.cons_append, List.nil_append] at hw14
 try clear hw13
 have hw15 := St.frontL (l := [_, _, _, _, _, _, _]) hw14
 simp only [List.cons_append, List.nil_append] at hw15
 try clear hw14
 refine l_assign rfl rfl rfl (l_nil (e_then (c_block ?_)))
 refine c_loopk (ι := Nat × Cac × List Bool × Cac × List Bool) (fun (z0 : Nat × Cac × List Bool × Cac × List Bool) => match z0 with | ⟨i, L0, F0, L1, F1⟩ => 200 - i) (fun (z0 : Nat × Cac × List Bool × Cac × List Bool) (w' : World) => match z0 with | ⟨i, L0, F0, L1, F1⟩ => St w w.heap.size None' ([As.blk k0 64 (cacC L0), As.many (inR L0), As.blk b2_1 29 (refC F0), As.blk k1 64 (cacC L1), As.many (inR L1), As.blk b2_3 29 (refC F1), As.blk b2_4 26 [.pointer (some ⟨b2_1, 0, none⟩), .pointer (some ⟨b2_3, 0, none⟩)], As.blk b1_2 23 [.pointer (some ⟨k0, 0, none⟩), .pointer (some ⟨k1, 0, none⟩)]]) w' ∧ Tw L0 F0 ∧ Tw L1 F1 ∧ i ≤ 200) (fun (z0 : Nat × Cac × List Bool × Cac × List Bool) => match z0 with | ⟨i, L0, F0, L1, F1⟩ => [(5, .int .i64 (i : Int))]) [0, 3, 4] (0, (List.replicate 41 none), (List.replicate 41 false), (List.replicate 41 none), (List.replicate 41 false)) ?_ (.cons rfl (.cons rfl (.cons rfl .nil))) ?_ ?_
 ·exact ⟨hw15, TwZ, TwZ, by omega⟩
 ·exact (.cons rfl (by first | rfl | (refine congrArg (Value.int _) ?_; omega)) .nil)
 rintro ⟨i, L0, F0, L1, F1⟩ w16 ⟨hw16, hT0, hT1, hi2⟩
 show RunC P _ _ _ (_ :: _) _
 refine c_seq (c_seq (c_region (l_move rfl rfl rfl (l_move rfl rfl rfl ?_))))
 refine k_len rfl rfl Tryz.underlying22 rfl (by first | exact hw16.ibl mem0 | exact hw16.ibl mem2 | exact hw16.ibl mem3 | exact hw16.ibl mem5 | exact hw16.ibl mem6 | exact hw16.ibl mem7 | exact hw16.ikarg hv | assumption) ?_
 refine l_lss rfl rfl rfl rfl ?_
 refine l_move rfl rfl rfl ?_
 apply l_and 2 [0, 3, 4, 5] rfl rfl (.cons rfl (.cons rfl (.cons rfl (.cons rfl (.cons rfl .nil))))) rfl rfl (fun _ => rfl) rfl rfl rfl
 ·intro hg6_5
  refine l_move rfl rfl rfl ?_
  refine l_lss rfl rfl rfl rfl ?_
  refine l_nil ?_
  exact e_stays rfl (.cons rfl (congrArg Value.bool (decide_eq_true hg6_5).symm) (.cons rfl rfl (.cons rfl rfl (.cons rfl rfl (.cons rfl rfl .nil)))))
 refine l_nil (e_then ?_)
 refine c_keep [0, 3, 4, 5, 38] (.cons rfl (.cons rfl (.cons rfl (.cons rfl (.cons rfl .nil))))) ?_
 first | refine c_cond rfl (fun hc1 => ?_) (fun hc1 => ?_) | refine c_condb rfl (fun hc1 => ?_) (fun hc1 => ?_)
 ·skip
  refine c_skip (e_then ?_)
  refine c_keep [0, 3, 4, 5] (.cons rfl (.cons rfl (.cons rfl (.cons rfl .nil)))) ?_
  refine c_seq (c_block (c_seq (c_region (l_assign rfl rfl rfl (l_nil ?_)))))
  refine e_then ?_
  refine c_cutk (ι := Nat × Nat × Nat × Cac × List Bool × Nat × Nat × Cac × List Bool) (fun (z0 : Nat × Nat × Nat × Cac × List Bool × Nat × Nat × Cac × List Bool) (w' : World) => match z0 with | ⟨k, ka, ra, La, Fa, kb, rb, Lb, Fb⟩ => St w w.heap.size None' ([As.blk ka 64 (cacC La), As.many (inR La), As.blk ra 29 (refC Fa), As.blk kb 64 (cacC Lb), As.many (inR Lb), As.blk rb 29 (refC Fb), As.blk b2_4 26 [.pointer (some ⟨b2_1, 0, none⟩), .pointer (some ⟨b2_3, 0, none⟩)], As.blk b1_2 23 [.pointer (some ⟨k0, 0, none⟩), .pointer (some ⟨k1, 0, none⟩)]]) w' ∧ Tw La Fa ∧ Tw Lb Fb ∧ ((k = 0 ∧ ka = k0 ∧ ra = b2_1 ∧ kb = k1 ∧ rb = b2_3) ∨ (k = 1 ∧ ka = k1 ∧ ra = b2_3 ∧ kb = k0 ∧ rb = b2_1))) (fun (z0 : Nat × Nat × Nat × Cac × List Bool × Nat × Nat × Cac × List Bool) => match z0 with | ⟨k, ka, ra, La, Fa, kb, rb, Lb, Fb⟩ => [(6, .int .i64 (k : Int))]) [0, 3, 4, 5] (.cons rfl (.cons rfl (.cons rfl (.cons rfl .nil)))) ?_ ?_
  ·skip
   refine c_seq (c_region ?_)
   obtain ⟨kd, qq, A, c, ll, ot, hre, hkd, hqq, hll, hcap, hvl⟩ := AskOk.at hrs i (by omega)
   refine l_move rfl rfl rfl (l_move rfl rfl rfl ?_)
   refine k_addr (j := i) rfl rfl Tryz.underlying22 tz34 (by decide) rfl rfl (by first | exact hw16.ibl mem0 | exact hw16.ibl mem2 | exact hw16.ibl mem3 | exact hw16.ibl mem5 | exact hw16.ibl mem6 | exact hw16.ibl mem7 | exact hw16.ikarg hv | assumption) (by first | rfl | omega) (by first | omega | (simp; done) | (simp; omega)) (fun ad9_2 ac9_2 hA9_2 => ?_)
   refine k_field fo34_3 rfl rfl rfl ?_
   refine k_load1 (j := i) (o := 3) rfl rfl Tryz.underlying4 rfl rfl hA9_2 (by first | exact hw16.ibl mem0 | exact hw16.ibl mem2 | exact hw16.ibl mem3 | exact hw16.ibl mem5 | exact hw16.ibl mem6 | exact hw16.ibl mem7 | exact hw16.ikarg hv | assumption) (hre) rfl ?_
   refine l_nil (e_then ?_)
   refine c_keep [0, 3, 4, 5, 6, 45] (.cons rfl (.cons rfl (.cons rfl (.cons rfl (.cons rfl (.cons rfl .nil)))))) ?_
   first | refine c_cond rfl (fun hc2 => ?_) (fun hc2 => ?_) | refine c_condb rfl (fun hc2 => ?_) (fun hc2 => ?_)
   ·skip
    refine c_region (l_assign rfl rfl rfl (l_nil ?_))
    refine e_meetk (1, k1, b2_3, L1, F1, k0, b2_1, L0, F0) ?_ (.cons rfl (.cons rfl (.cons rfl (.cons rfl .nil)))) ?_
    ·exact ⟨St.frontL (l := [_, _, _, _, _]) (St.frontL (l := [_, _, _, _, _]) (St.frontL (l := [_, _, _, _, _]) hw16)), hT1, hT0, .inr ⟨rfl, rfl, rfl, rfl, rfl⟩⟩
    ·exact (.cons rfl (by first | rfl | (refine congrArg (Value.int _) ?_; omega)) .nil)
   ·skip
    refine c_skip ?_
    refine e_meetk (0, k0, b2_1, L0, F0, k1, b2_3, L1, F1) ?_ (.cons rfl (.cons rfl (.cons rfl (.cons rfl .nil)))) ?_
    ·exact ⟨hw16, hT0, hT1, .inl ⟨rfl, rfl, rfl, rfl, rfl⟩⟩
    ·exact (.cons rfl (by first | rfl | (refine congrArg (Value.int _) ?_; omega)) .nil)
  rintro ⟨k, ka, ra, La, Fa, kb, rb, Lb, Fb⟩ w17 ⟨hw17, hTa, hTb, hk⟩
  obtain ⟨kd, qq, A, c, ll, ot, hre, hkd, hqq, hll, hcap, hvl⟩ := AskOk.at hrs i (by omega)
  have hck : ([.pointer (some ⟨k0, 0, none⟩), .pointer (some ⟨k1, 0, none⟩)] : List Value)[k]? = some (.pointer (some ⟨ka, 0, none⟩)) := by rcases hk with ⟨rfl, rfl, rfl, rfl, rfl⟩ | ⟨rfl, rfl, rfl, rfl, rfl⟩ <;> rfl
  have hrk : ([.pointer (some ⟨b2_1, 0, none⟩), .pointer (some ⟨b2_3, 0, none⟩)] : List Value)[k]? = some (.pointer (some ⟨ra, 0, none⟩)) := by rcases hk with ⟨rfl, rfl, rfl, rfl, rfl⟩ | ⟨rfl, rfl, rfl, rfl, rfl⟩ <;> rfl
  have hk2 : k < 2 := by omega
  show RunC P _ _ _ (_ :: _) _
  refine c_seq ?_
  refine c_tail 12 (by kernel_rfl) (by kernel_rfl) ?_
  have hw18 := hw17.drewn
  try clear hw17
  refine l_move rfl rfl rfl (l_move rfl rfl rfl ?_)
  refine v_get rfl rfl rfl rfl Tryz.underlying25 tz23 Tryz.underlying23 rfl rfl rfl (by first | exact hw18.ibl mem0 | exact hw18.ibl mem2 | exact hw18.ibl mem3 | exact hw18.ibl mem5 | exact hw18.ibl mem6 | exact hw18.ibl mem7 | exact hw18.ikarg hv | assumption) (by first | omega | (simp; done) | (simp; omega)) hck ?_ rfl
  refine l_move rfl rfl rfl (l_move rfl rfl rfl ?_)
  refine v_get rfl rfl rfl rfl Tryz.underlying30 tz26 Tryz.underlying26 rfl rfl rfl (by first | exact hw18.ibl mem0 | exact hw18.ibl mem2 | exact hw18.ibl mem3 | exact hw18.ibl mem5 | exact hw18.ibl mem6 | exact hw18.ibl mem7 | exact hw18.ikarg hv | assumption) (by first | omega | (simp; done) | (simp; omega)) hrk ?_ rfl
  refine l_move rfl rfl rfl (l_move rfl rfl rfl ?_)
  refine k_addr (j := i) rfl rfl Tryz.underlying22 tz34 (by decide) rfl rfl (by first | exact hw18.ibl mem0 | exact hw18.ibl mem2 | exact hw18.ibl mem3 | exact hw18.ibl mem5 | exact hw18.ibl mem6 | exact hw18.ibl mem7 | exact hw18.ikarg hv | assumption) (by first | rfl | omega) (by first | omega | (simp; done) | (simp; omega)) (fun ad11_10 ac11_10 hA11_10 => ?_)
  refine k_load (j := i) rfl rfl Tryz.underlying34 rfl tz34 rfl hA11_10 (by first | exact hw18.ibl mem0 | exact hw18.ibl mem2 | exact hw18.ibl mem3 | exact hw18.ibl mem5 | exact hw18.ibl mem6 | exact hw18.ibl mem7 | exact hw18.ikarg hv | assumption) (hre) ?_
  refine l_nil ?_
  refine e_tail ?_
  refine l_call rfl rfl Tryz.func6 rfl rfl (.cons rfl (.cons rfl (.cons rfl .nil))) (askedL7 ka ra La Fa hTa kd qq A c ll ot hkd hqq hll hcap w17.drew (St.rows (τ := [As.blk ka 64 (cacC La), As.many (inR La), As.blk ra 29 (refC Fa)]) hw18) (St_argH (F := None') (τ := [As.blk ka 64 (cacC La), As.many (inR La), As.blk ra 29 (refC Fa)]) hw18 (fun w1 h1 => IV.mono hvl fun k hk => h1 k hk (fun e => e)))) ?_
  rintro _ w19 ⟨rfl, La2, Fa2, hT2, hX⟩
  have hw19 := hX _ _ _ _ hw18
  simp only [List.cons_append, List.nil_append] at hw19
  try clear hX hw18
  first | refine l_notd rfl rfl rfl ?_ | refine l_not rfl rfl rfl ?_
  refine l_turn (s := 59) (v' := .bool false) rfl (by rfl) ?_
  refine l_nil (e_then ?_)
  refine c_keep [0, 3, 4, 5, 59] (.cons rfl (.cons rfl (.cons rfl (.cons rfl (.cons rfl .nil))))) ?_
  refine c_cond_f rfl rfl ?_
  refine c_skip ?_
  refine e_blk ?_
  refine e_then ?_
  refine c_keep [0, 3, 4, 5] (.cons rfl (.cons rfl (.cons rfl (.cons rfl .nil)))) ?_
  refine c_region (l_move rfl rfl rfl ?_)
  refine l_add rfl rfl rfl rfl (w_i64 (by omega)) ?_
  refine l_assign rfl rfl rfl (l_nil ?_)
  refine e_againk (i := (i, L0, F0, L1, F1)) (i + 1, (if k = 0 then La2 else Lb), (if k = 0 then Fa2 else Fb), (if k = 0 then Lb else La2), (if k = 0 then Fb else Fa2)) ?_ ?_ (.cons rfl (.cons rfl (.cons rfl .nil))) ?_
  ·first | omega | (simp; omega)
  ·rcases hk with ⟨rfl, rfl, rfl, rfl, rfl⟩ | ⟨rfl, rfl, rfl, rfl, rfl⟩
   ·exact ⟨hw19, hT2, hTb, by omega⟩
   ·exact ⟨St.frontL (l := [_, _, _, _, _]) (St.frontL (l := [_, _, _, _, _]) (St.frontL (l := [_, _, _, _, _]) hw19)), hTb, hT2, by omega⟩
  ·exact (.cons rfl (by first | rfl | (refine congrArg (Value.int _) ?_; omega)) .nil)
 ·skip
  refine c_exit ?_
  refine e_then_exit ?_
  refine e_then_exit ?_
  refine e_blk_exit ?_
  refine e_then ?_
  refine c_keep [3, 4] (.cons rfl (.cons rfl .nil)) ?_
  refine c_seq (c_seq (c_region (l_assign rfl rfl rfl (l_nil (e_then ?_)))))
  refine c_block ?_
  refine c_loopk (ι := Nat) (fun (k : Nat) => 2 - k) (fun (k : Nat) (w' : World) => St w w.heap.size None' ([As.blk k0 64 (cacC L0), As.many (inR L0), As.blk b2_1 29 (refC F0), As.blk k1 64 (cacC L1), As.many (inR L1), As.blk b2_3 29 (refC F1), As.blk b2_4 26 [.pointer (some ⟨b2_1, 0, none⟩), .pointer (some ⟨b2_3, 0, none⟩)], As.blk b1_2 23 [.pointer (some ⟨k0, 0, none⟩), .pointer (some ⟨k1, 0, none⟩)]]) w' ∧ k ≤ 2) (fun (k : Nat) => [(7, .int .i64 (k : Int))]) [3, 4] (0) ?_ (.cons rfl (.cons rfl .nil)) ?_ ?_
  ·exact ⟨hw16, by omega⟩
  ·exact (.cons rfl (by first | rfl | (refine congrArg (Value.int _) ?_; omega)) .nil)
  rintro k w20 ⟨hw20, hk2⟩
  show RunC P _ _ _ (_ :: _) _
  refine c_seq (c_seq (c_region (l_move rfl rfl rfl ?_)))
  refine l_lss rfl rfl rfl rfl ?_
  refine l_nil (e_then ?_)
  refine c_keep [3, 4, 7, 61] (.cons rfl (.cons rfl (.cons rfl (.cons rfl .nil)))) ?_
  first | refine c_cond rfl (fun hc4 => ?_) (fun hc4 => ?_) | refine c_condb rfl (fun hc4 => ?_) (fun hc4 => ?_)
  ·skip
   refine c_skip (e_then ?_)
   refine c_keep [3, 4, 7] (.cons rfl (.cons rfl (.cons rfl .nil))) ?_
   refine c_seq (c_block (c_seq (c_seq (c_region ?_))))
   obtain ⟨ka, ra, La, Fa, hck, hrk, hTa, hin⟩ : ∃ ka ra La Fa, ([.pointer (some ⟨k0, 0, none⟩), .pointer (some ⟨k1, 0, none⟩)] : List Value)[k]? = some (.pointer (some ⟨ka, 0, none⟩)) ∧ ([.pointer (some ⟨b2_1, 0, none⟩), .pointer (some ⟨b2_3, 0, none⟩)] : List Value)[k]? = some (.pointer (some ⟨ra, 0, none⟩)) ∧ Tw La Fa ∧ ∀ w1, St w w.heap.size None' [As.blk k0 64 (cacC L0), As.many (inR L0), As.blk b2_1 29 (refC F0), As.blk k1 64 (cacC L1), As.many (inR L1), As.blk b2_3 29 (refC F1), As.blk b2_4 26 [.pointer (some ⟨b2_1, 0, none⟩), .pointer (some ⟨b2_3, 0, none⟩)], As.blk b1_2 23 [.pointer (some ⟨k0, 0, none⟩), .pointer (some ⟨k1, 0, none⟩)]] w1 → (As.blk ka 64 (cacC La)).ok w1 ∧ (As.many (inR La)).ok w1 ∧ (As.blk ra 29 (refC Fa)).ok w1 := by
    rcases (show k = 0 ∨ k = 1 by omega) with rfl | rfl
    ·exact ⟨k0, b2_1, L0, F0, rfl, rfl, hT0, fun w1 h => ⟨h.ok mem0, h.ok mem1, h.ok mem2⟩⟩
    ·exact ⟨k1, b2_3, L1, F1, rfl, rfl, hT1, fun w1 h => ⟨h.ok mem3, h.ok mem4, h.ok mem5⟩⟩
   have hbt : ∀ (q : Int) (h : 0 ≤ q ∧ q < 41), hasP La q.toNat = Fa.getD q.toNat false := fun q h => hTa.2.2 _ (by omega)
   have hhh := hTa.held
   refine l_assign rfl rfl rfl (l_nil (e_then (c_block ?_)))
   refine c_loopk (ι := Int) (fun (q : Int) => (42 - q).toNat) (fun (q : Int) (w' : World) => St w w.heap.size None' ([As.blk k0 64 (cacC L0), As.many (inR L0), As.blk b2_1 29 (refC F0), As.blk k1 64 (cacC L1), As.many (inR L1), As.blk b2_3 29 (refC F1), As.blk b2_4 26 [.pointer (some ⟨b2_1, 0, none⟩), .pointer (some ⟨b2_3, 0, none⟩)], As.blk b1_2 23 [.pointer (some ⟨k0, 0, none⟩), .pointer (some ⟨k1, 0, none⟩)]]) w' ∧ -1 ≤ q ∧ q ≤ 42) (fun (q : Int) => [(8, .int .i64 q)]) [3, 4, 7] (-1) ?_ (.cons rfl (.cons rfl (.cons rfl .nil))) ?_ ?_
   ·exact ⟨hw20, by omega⟩
   ·exact (.cons rfl (by first | rfl | (refine congrArg (Value.int _) ?_; omega)) .nil)
   rintro q w21 ⟨hw21, hq1, hq2⟩
   show RunC P _ _ _ (_ :: _) _
   refine c_seq (c_seq (c_region (l_move rfl rfl rfl ?_)))
   refine l_leq rfl rfl rfl rfl ?_
   refine l_nil (e_then ?_)
   refine c_keep [3, 4, 7, 8, 65] (.cons rfl (.cons rfl (.cons rfl (.cons rfl (.cons rfl .nil))))) ?_
   first | refine c_cond rfl (fun hc5 => ?_) (fun hc5 => ?_) | refine c_condb rfl (fun hc5 => ?_) (fun hc5 => ?_)
   ·skip
    refine c_skip (e_then ?_)
    refine c_keep [3, 4, 7, 8] (.cons rfl (.cons rfl (.cons rfl (.cons rfl .nil)))) ?_
    refine c_seq (c_block (c_seq ?_))
    refine c_still (by kernel_rfl) (by kernel_rfl) ?_
    have hw22 := hw21.drewn
    try clear hw21
    refine l_move rfl rfl rfl (l_move rfl rfl rfl ?_)
    refine v_get rfl rfl rfl rfl Tryz.underlying25 tz23 Tryz.underlying23 rfl rfl rfl (by first | exact hw22.ibl mem0 | exact hw22.ibl mem2 | exact hw22.ibl mem3 | exact hw22.ibl mem5 | exact hw22.ibl mem6 | exact hw22.ibl mem7 | exact hw22.ikarg hv | assumption) (by first | omega | (simp; done) | (simp; omega)) hck ?_ rfl
    refine l_move rfl rfl rfl ?_
    refine l_callp rfl rfl Tryz.func7 rfl rfl (.cons rfl (.cons rfl .nil)) (BuiltC ka La hTa.1 q _ (hin _ hw22).1 (hin _ hw22).2.1) ?_
    refine l_move rfl rfl rfl (l_move rfl rfl rfl ?_)
    refine v_get rfl rfl rfl rfl Tryz.underlying30 tz26 Tryz.underlying26 rfl rfl rfl (by first | exact hw22.ibl mem0 | exact hw22.ibl mem2 | exact hw22.ibl mem3 | exact hw22.ibl mem5 | exact hw22.ibl mem6 | exact hw22.ibl mem7 | exact hw22.ikarg hv | assumption) (by first | omega | (simp; done) | (simp; omega)) hrk ?_ rfl
    refine l_move rfl rfl rfl ?_
    refine l_callp rfl rfl Tryz.func8 rfl rfl (.cons rfl (.cons rfl .nil)) (TimesR ra Fa hTa.2.1 q _ (hin _ hw22).2.2) ?_
    refine l_neq rfl rfl rfl rfl ?_
    refine l_turn (s := 80) (v' := .bool false) rfl (by by_cases h : 0 ≤ q ∧ q < 41 <;> simp [h, hbt]) ?_
    refine l_move rfl rfl rfl (l_move rfl rfl rfl (l_move rfl rfl rfl ?_))
    refine v_get rfl rfl rfl rfl Tryz.underlying25 tz23 Tryz.underlying23 rfl rfl rfl (by first | exact hw22.ibl mem0 | exact hw22.ibl mem2 | exact hw22.ibl mem3 | exact hw22.ibl mem5 | exact hw22.ibl mem6 | exact hw22.ibl mem7 | exact hw22.ikarg hv | assumption) (by first | omega | (simp; done) | (simp; omega)) hck ?_ rfl
    refine l_move rfl rfl rfl ?_
    refine l_callp rfl rfl Tryz.func9 rfl rfl (.cons rfl (.cons rfl .nil)) (CompleteC ka La hTa.1 q _ (hin _ hw22).1 (hin _ hw22).2.1) ?_
    refine l_move rfl rfl rfl (l_move rfl rfl rfl ?_)
    refine v_get rfl rfl rfl rfl Tryz.underlying30 tz26 Tryz.underlying26 rfl rfl rfl (by first | exact hw22.ibl mem0 | exact hw22.ibl mem2 | exact hw22.ibl mem3 | exact hw22.ibl mem5 | exact hw22.ibl mem6 | exact hw22.ibl mem7 | exact hw22.ikarg hv | assumption) (by first | omega | (simp; done) | (simp; omega)) hrk ?_ rfl
    refine l_move rfl rfl rfl ?_
    refine l_callp rfl rfl Tryz.func8 rfl rfl (.cons rfl (.cons rfl .nil)) (TimesR ra Fa hTa.2.1 q _ (hin _ hw22).2.2) ?_
    refine l_gtr rfl rfl rfl rfl ?_
    refine l_neqb Tryz.underlying4 rfl rfl rfl rfl ?_
    refine l_turn (s := 95) (v' := .bool false) rfl (by by_cases h : 0 ≤ q ∧ q < 41 <;> simp [h, hbt] <;> cases Fa[q.toNat]?.getD false <;> rfl) ?_
    refine l_pick_f rfl rfl rfl rfl ?_
    refine l_nil (e_then ?_)
    refine c_keep [3, 4, 7, 8, 96] (.cons rfl (.cons rfl (.cons rfl (.cons rfl (.cons rfl .nil))))) ?_
    refine c_cond_f rfl rfl ?_
    refine c_skip ?_
    refine e_blk ?_
    refine e_then ?_
    refine c_keep [3, 4, 7, 8] (.cons rfl (.cons rfl (.cons rfl (.cons rfl .nil)))) ?_
    refine c_region (l_move rfl rfl rfl ?_)
    refine l_add rfl rfl rfl rfl (w_i64 (by omega)) ?_
    refine l_assign rfl rfl rfl (l_nil ?_)
    refine e_againk (i := (q)) (q + 1) ?_ ?_ (.cons rfl (.cons rfl (.cons rfl .nil))) ?_
    ·first | omega | (simp; omega)
    ·exact ⟨hw22, by omega⟩
    ·exact (.cons rfl (by first | rfl | (refine congrArg (Value.int _) ?_; omega)) .nil)
   ·skip
    refine c_exit ?_
    refine e_then_exit ?_
    refine e_then_exit ?_
    refine e_blk_exit ?_
    refine e_then ?_
    refine c_keep [3, 4, 7] (.cons rfl (.cons rfl (.cons rfl .nil))) ?_
    refine c_seq ?_
    refine c_still (by kernel_rfl) (by kernel_rfl) ?_
    have hw23 := hw21.drewn
    try clear hw21
    refine l_move rfl rfl rfl (l_move rfl rfl rfl ?_)
    refine v_get rfl rfl rfl rfl Tryz.underlying25 tz23 Tryz.underlying23 rfl rfl rfl (by first | exact hw23.ibl mem0 | exact hw23.ibl mem2 | exact hw23.ibl mem3 | exact hw23.ibl mem5 | exact hw23.ibl mem6 | exact hw23.ibl mem7 | exact hw23.ikarg hv | assumption) (by first | omega | (simp; done) | (simp; omega)) hck ?_ rfl
    refine l_callp rfl rfl Tryz.func10 rfl rfl (.cons rfl .nil) (HeldC ka La hTa.1 _ (hin _ hw23).1 (hin _ hw23).2.1) ?_
    refine l_move rfl rfl rfl (l_move rfl rfl rfl ?_)
    refine v_get rfl rfl rfl rfl Tryz.underlying30 tz26 Tryz.underlying26 rfl rfl rfl (by first | exact hw23.ibl mem0 | exact hw23.ibl mem2 | exact hw23.ibl mem3 | exact hw23.ibl mem5 | exact hw23.ibl mem6 | exact hw23.ibl mem7 | exact hw23.ikarg hv | assumption) (by first | omega | (simp; done) | (simp; omega)) hrk ?_ rfl
    refine l_callp rfl rfl Tryz.func11 rfl rfl (.cons rfl .nil) (HeldR ra Fa hTa.2.1 _ (hin _ hw23).2.2) ?_
    refine l_neq rfl rfl rfl rfl ?_
    refine l_turn (s := 107) (v' := .bool false) rfl (by rw [hhh]; simp) ?_
    refine l_nil (e_then ?_)
    refine c_keep [3, 4, 7, 107] (.cons rfl (.cons rfl (.cons rfl (.cons rfl .nil)))) ?_
    refine c_cond_f rfl rfl ?_
    refine c_skip ?_
    refine e_blk ?_
    refine e_then ?_
    refine c_keep [3, 4, 7] (.cons rfl (.cons rfl (.cons rfl .nil))) ?_
    refine c_region (l_move rfl rfl rfl ?_)
    refine l_add rfl rfl rfl rfl (w_i64 (by omega)) ?_
    refine l_assign rfl rfl rfl (l_nil ?_)
    refine e_againk (i := (k)) (k + 1) ?_ ?_ (.cons rfl (.cons rfl .nil)) ?_
    ·first | omega | (simp; omega)
    ·exact ⟨hw23, by omega⟩
    ·exact (.cons rfl (by first | rfl | (refine congrArg (Value.int _) ?_; omega)) .nil)
  ·skip
   refine c_exit ?_
   refine e_then_exit ?_
   refine e_then_exit ?_
   refine e_blk_exit ?_
   refine e_then ?_
   refine c_keep [] .nil ?_
   refine c_seq (c_region (l_assign rfl rfl rfl (l_nil (e_then ?_))))
   refine c_ret ?_
   refine e_done1 Tryz.results3 rfl ?_
   refine ⟨_, rfl, ?_⟩
   have hw24 := St.del (.tail (.tail (.tail (.tail (.tail (.tail (.tail .head))))))) hw20
   try clear hw20
   have hw25 := St.del (.tail (.tail (.tail (.tail (.tail (.tail .head)))))) hw24
   try clear hw24
   have hw26 := St.del (.tail (.tail (.tail (.tail (.tail .head))))) hw25
   try clear hw25
   have hw27 := St.del (.tail (.tail (.tail (.tail .head)))) hw26
   try clear hw26
   have hw28 := St.del (.tail (.tail (.tail .head))) hw27
   try clear hw27
   have hw29 := St.del (.tail (.tail .head)) hw28
   try clear hw28
   have hw30 := St.del (.tail .head) hw29
   try clear hw29
   have hw31 := St.del .head hw30
   try clear hw30
   exact ⟨rfl, hw31.grows⟩
end Go.Proofs.YtggdkplphfofkaaGreat.W
