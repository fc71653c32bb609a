/- walk of ScanSays -/
import Derived.Test.YtjkaahnadaapoaaSn
import Derived.Test.YtjkaahnadaapoaaSk
set_option linter.unusedVariables false
set_option linter.unusedSimpArgs false
set_option maxRecDepth 10000
namespace Go.Proofs.Ytjkaahnadaapoaa.W
open Go.Vc Go.RowKit

theorem dig_eq {c : UInt8} {d : Int} (h : isD c) (e : d = (c.toNat : Int) - 48) : dig d = c := by
  unfold isD at h
  have := dig_toNat (r := d) (by omega)
  have h2 : ((dig d).toNat : Int) = (c.toNat : Int) := by omega
  exact u8_eq.1 h2
theorem take_hd (l : L8) {k : Nat} (h : 0 < k) : (l.take k).getD 0 0 = l.getD 0 0 := by
  match l, k with
  | [], _ => rw [List.take_nil]
  | c :: l, k + 1 => rfl
theorem dt0_pv : ∀ (n : Nat) (l : L8), l.length = n + 1 → (∀ x ∈ l, isD x) → ¬ l.getD 0 0 = 48 → 0 < pv l ∧ dt0 (pv l).toNat = l
  | 0, l, h, hd, hz => by
    match l, h with
    | [c], _ => 
      have hc := hd c (.head _)
      have hc' := hc
      unfold isD at hc'
      have hz' : ¬ (c.toNat : Int) = 48 := fun e => hz ((u8_eq (d := 48)).1 e)
      have hp : pv [c] = (c.toNat : Int) - 48 := by simp [pv]
      have hpos : 0 < pv [c] := by omega
      refine ⟨hpos, ?_⟩
      rw [dt0_pos hpos, show pv [c] / 10 = 0 from by omega, show (0 : Int).toNat = 0 from rfl, dt0_zero, dig_eq hc (by omega)]
      rfl
  | n + 1, l, h, hd, hz => by
    have hne : l ≠ [] := by intro e; subst e; simp at h
    have e := List.dropLast_concat_getLast hne
    have hd' : ∀ x ∈ l.dropLast, isD x := fun x hx => hd x ((List.dropLast_sublist l).subset hx)
    have hz' : ¬ l.dropLast.getD 0 0 = 48 := by
      have : l.dropLast.getD 0 0 = l.getD 0 0 := by
        rw [List.dropLast_eq_take]
        exact take_hd l (by omega)
      rw [this]; exact hz
    have ih := dt0_pv n l.dropLast (by simp [h]) hd' hz'
    have hl := hd _ (List.getLast_mem hne)
    have hl' := hl
    unfold isD at hl'
    have hp : pv l = 10 * pv l.dropLast + (((l.getLast hne).toNat : Int) - 48) := by
      have := pv_snoc l.dropLast (l.getLast hne)
      rw [e] at this
      exact this
    have hpos : 0 < pv l := by omega
    refine ⟨hpos, ?_⟩
    rw [dt0_pos hpos, show pv l / 10 = pv l.dropLast from by omega, ih.2, dig_eq hl (by omega)]
    exact e
theorem dtx_pv {l : L8} (hd : ∀ x ∈ l, isD x) (h0 : l ≠ []) (hz : ¬ l.getD 0 0 = 48) : dtx (pv l) = l := by
  have h := dt0_pv (l.length - 1) l (by have := List.length_pos_iff.2 h0; omega) hd hz
  unfold dtx
  rw [if_neg (by omega), h.2]
theorem skip0_head (l : L8) (h : skip0 l ≠ []) : ¬ (skip0 l).getD 0 0 = 48 := by
  induction l with
  | nil => exact absurd rfl h
  | cons c l ih =>
    simp only [skip0] at h ⊢
    split
    · rename_i hc
      rw [if_pos hc] at h
      exact ih h
    · rename_i hc
      exact hc
theorem ExR.form {t : L8} {neg : Bool} {n x e x0 : Int} {W F : L8} (h : ExR t n x e) (hf : Form t neg W F x0) (hl : t.length ≤ 1024) (h0 : skip0 (W ++ F) ≠ []) : n = pv (skip0 (W ++ F)) ∧ x = x0 - F.length ∧ e = 0 := by
  have := ExR.num (hf.read hl) h0
  exact h.unique this
theorem numG_nil {neg : Bool} {L : L8} {fl : Nat} {x : Int} {a : Bool} {b c d : Int} {e : Bool} {f g : Int} (h : (a, b, c, d, e, f, g) = numG neg L fl x) (hL : L = []) : c = 0 ∧ d = 0 ∧ e = false := by
  unfold numG at h
  rw [if_pos hL] at h
  obtain ⟨_, _, rfl, rfl, rfl, _⟩ := tup7 h
  exact ⟨rfl, rfl, rfl⟩
theorem numG_num {neg : Bool} {L : L8} {fl : Nat} {x : Int} {a : Bool} {b c d : Int} {e : Bool} {f g : Int} (h : (a, b, c, d, e, f, g) = numG neg L fl x) (hL : ¬ L = []) : c = pv (L.take (L.length - (L.length - 19))) ∧ d = x - fl + ((L.length - 19 : Nat) : Int) ∧ e = (L.drop (L.length - (L.length - 19))).any (fun c => !decide (c = 48)) := by
  unfold numG at h
  rw [if_neg hL] at h
  obtain ⟨_, _, rfl, rfl, rfl, _⟩ := tup7 h
  exact ⟨rfl, rfl, rfl⟩

theorem scanSaysL (wv bv : Value) (wl bl : L8) (x0 : Int) (neg point plus great : Bool) (w : World) (hwv : IB w wv wl) (hbv : IB w bv bl) :
    CallsV P 8 [.agg #[wv, bv, .int .i64 x0, .bool neg, .bool point, .bool plus, .bool great]] w fun r w' => r = .bool true ∧ Grow w w' [] := by
  refine enterW Try.func8 rfl Try.ntmps8 rfl ?_
  have hw0 := St.start w
  have hone1 := slice_one hwv
  have hone2 := slice_one hbv
  have hxb := tmod_bd x0
  have hbl1 := body_len wl bl hxb point plus great
  have hf1 := body_form0 wl bl hxb (sgT_sgn neg plus) point plus great
  rw [← txT_eq] at hf1
  have ht1 : (txT wl bl (x0.tmod 30000) neg point plus great).length ≤ 100 := by rw [txT_eq, List.length_append]; have := sgT_len neg plus; omega
  have hwl := whl_len wl bl
  have hdl := dgs_len bl
  have hlW : (whl wl bl ++ dgs bl).length = (whl wl bl).length + (dgs bl).length := List.length_append
  refine c_seq ?_
  refine c_region ?_
  refine l_box hw0 rfl rfl rfl (fun b0_0 w1 hw1 => ?_)
  try clear hw0
  refine l_assign rfl rfl rfl ?_
  refine l_nil ?_
  refine e_then ?_
  refine c_keep [1] (.cons rfl .nil) ?_
  refine c_seq ?_
  refine c_region ?_
  refine l_field fo38_2 rfl rfl rfl ?_
  refine l_load_blk hw1 mem0 rfl rfl Try.underlying3 rfl rfl rfl ?_
  refine l_rem rfl rfl rfl rfl (by omega) (rfl) ?_
  refine l_field fo38_2 rfl rfl rfl ?_
  refine l_store_blk hw1 .head (by repeat (first | exact .zero | apply SetAt.succ)) rfl tz3 rfl rfl (by first | rfl | assumption) (fun w2 hw2 => ?_)
  try clear hw1
  refine l_nil ?_
  refine e_then ?_
  refine c_keep [1] (.cons rfl .nil) ?_
  refine c_seq ?_
  refine c_region ?_
  refine l_load_agg hw2 mem0 rfl rfl Try.underlying38 rfl tz38 rfl (.take (.take (.take (.take (.take (.take (.take .nil))))))) ?_
  refine l_call rfl rfl Try.func16 rfl rfl (.cons rfl .nil) (text8 wv bv wl bl (x0.tmod 30000) neg point plus great hxb w2 (hw2.iarg hwv) (hw2.iarg hbv)) ?_
  rintro _ w3 ⟨rfl, hG⟩
  have hw3 := hG _ _ _ _ hw2
  try clear hG hw2
  simp only [List.cons_append, List.nil_append] at hw3
  refine l_move rfl rfl rfl ?_
  refine l_extract rfl rfl rfl rfl ?_
  refine l_extract rfl rfl rfl rfl ?_
  refine l_extract rfl rfl rfl rfl ?_
  refine l_assign rfl rfl rfl ?_
  refine l_assign rfl rfl rfl ?_
  refine l_assign rfl rfl rfl ?_
  refine l_nil ?_
  refine e_then ?_
  refine c_keep [1, 3, 4, 5] (.cons rfl (.cons rfl (.cons rfl (.cons rfl .nil)))) ?_
  refine c_seq ?_
  refine c_region ?_
  refine l_move rfl rfl rfl ?_
  refine v_tobytes hw3 rfl rfl Try.underlying9 Try.underlying22 Try.underlying5 rfl (fun v3_1 w4 hw4 => ?_)
  try clear hw3
  refine l_call rfl rfl Try.func11 rfl rfl (.cons rfl .nil) (scanS _ (txT wl bl (x0.tmod 30000) neg point plus great) (by omega) w4 (hw4.ii mem0)) ?_
  rintro _ w5 ⟨ng1, wd1, man1, x1, more1, p1, e1, rfl, hSng1, hG⟩
  have hw5 := hG _ _ _ _ hw4
  try clear hG hw4
  simp only [List.cons_append, List.nil_append] at hw5
  have hg1 := hSng1.form hf1 (by omega)
  obtain ⟨hwd1, hp1, he1, hng1⟩ := numG_0 hg1
  refine l_move rfl rfl rfl ?_
  refine l_extract rfl rfl rfl rfl ?_
  refine l_extract rfl rfl rfl rfl ?_
  refine l_extract rfl rfl rfl rfl ?_
  refine l_alloc hw5 ta27 rfl rfl (fun b3_7 w6 hw6 => ?_)
  try clear hw5
  refine l_store_blks hw6 .head (.zero (.zero (.zero (.zero (.zero .nil))))) rfl tz27 rfl rfl (by first | (simp [Value.oneCell']; done) | (intro u hu; simp only [List.mem_cons, List.not_mem_nil, or_false] at hu; rcases hu with rfl | rfl | rfl | rfl | rfl <;> first | rfl | assumption)) (fun w7 hw7 => ?_)
  try clear hw6
  refine l_assign rfl rfl rfl ?_
  refine l_assign rfl rfl rfl ?_
  refine l_nil ?_
  refine e_then ?_
  refine c_keep [1, 3, 4, 5, 6, 7, 8] (.cons rfl (.cons rfl (.cons rfl (.cons rfl (.cons rfl (.cons rfl (.cons rfl .nil))))))) ?_
  refine c_seq ?_
  refine c_seq ?_
  refine c_region ?_
  refine l_move rfl rfl rfl ?_
  refine l_callp rfl rfl Try.func13 rfl rfl (.cons rfl .nil) (numL _ (by omega) _) ?_
  refine l_neq rfl rfl rfl rfl ?_
  refine l_turn (s := 35) (v' := .bool false) rfl (by rw [decide_eq_false (by omega)]) ?_
  refine l_move rfl rfl rfl ?_
  refine l_move rfl rfl rfl ?_
  refine l_neq rfl rfl rfl rfl ?_
  refine l_turn (s := 38) (v' := .bool false) rfl (by rw [decide_eq_false (by omega)]) ?_
  refine l_pick_f rfl rfl rfl rfl ?_
  refine l_move rfl rfl rfl ?_
  refine l_field fo27_0 rfl rfl rfl ?_
  refine l_load_blk hw7 mem0 rfl rfl Try.underlying4 rfl rfl rfl ?_
  refine l_field fo38_3 rfl rfl rfl ?_
  refine l_load_blk hw7 mem2 rfl rfl Try.underlying4 rfl rfl rfl ?_
  refine l_neqb Try.underlying4 rfl rfl rfl rfl ?_
  refine l_turn (s := 45) (v' := .bool false) rfl (by rw [hng1]; simp) ?_
  refine l_pick_f rfl rfl rfl rfl ?_
  refine l_move rfl rfl rfl ?_
  refine l_field fo27_1 rfl rfl rfl ?_
  refine l_load_blk hw7 mem0 rfl rfl Try.underlying3 rfl rfl rfl ?_
  refine l_neq rfl rfl rfl rfl ?_
  refine l_turn (s := 50) (v' := .bool false) rfl (by rw [decide_eq_false (by omega)]) ?_
  refine l_pick_f rfl rfl rfl rfl ?_
  refine l_nil ?_
  refine e_then ?_
  refine c_keep [1, 3, 4, 5, 6, 51] (.cons rfl (.cons rfl (.cons rfl (.cons rfl (.cons rfl (.cons rfl .nil)))))) ?_
  refine c_cond_f rfl rfl ?_
  refine c_skip ?_
  refine e_then ?_
  refine c_keep [1, 3, 4, 5, 6] (.cons rfl (.cons rfl (.cons rfl (.cons rfl (.cons rfl .nil))))) ?_
  refine c_seq ?_
  refine c_region ?_
  refine l_move rfl rfl rfl ?_
  refine l_move rfl rfl rfl ?_
  refine l_adds rfl rfl rfl rfl (by first | omega | (simp only [List.length_append, List.length_cons, List.length_nil] at *; omega)) ?_
  refine l_assign rfl rfl rfl ?_
  refine l_nil ?_
  refine e_then ?_
  refine c_keep [1, 3, 5, 6, 9] (.cons rfl (.cons rfl (.cons rfl (.cons rfl (.cons rfl .nil))))) ?_
  refine c_seq ?_
  refine c_block ?_
  refine c_loopk (ι := Nat) (fun (z : Nat) => (whl wl bl ++ dgs bl).length - z) (fun (z : Nat) (w' : World) => St w w.heap.size None' ([As.blk b3_7 27 [.bool ng1, .int .i64 wd1, .int .u64 man1, .int .i64 x1, .bool more1], As.iv v3_1 (bys (txT wl bl (x0.tmod 30000) neg point plus great)), As.blk b0_0 38 [wv, bv, .int .i64 (x0.tmod 30000), .bool neg, .bool point, .bool plus, .bool great]]) w' ∧ z ≤ (whl wl bl ++ dgs bl).length ∧ ∀ j, j < z → (whl wl bl ++ dgs bl).getD j 0 = 48) (fun (z : Nat) => [(9, str ((whl wl bl ++ dgs bl).drop z))]) [1, 3, 5, 6] (0) ?_ (.cons rfl (.cons rfl (.cons rfl (.cons rfl .nil)))) ?_ ?_
  · exact ⟨hw7, by omega, fun j hj => by omega⟩
  · exact (.cons rfl (by first | rfl | (refine congrArg (Value.int _) ?_; omega)) .nil)
  rintro z w8 ⟨hw8, hz, hzs⟩
  show RunC P _ _ _ (_ :: _) _
  have hlz : ((whl wl bl ++ dgs bl).drop z).length = (whl wl bl ++ dgs bl).length - z := List.length_drop
  refine c_seq ?_
  refine c_seq ?_
  refine c_region ?_
  refine l_move rfl rfl rfl ?_
  refine l_neqs rfl rfl rfl rfl ?_
  refine l_move rfl rfl rfl ?_
  apply l_and 3 [1, 3, 5, 6, 9] rfl rfl (.cons rfl (.cons rfl (.cons rfl (.cons rfl (.cons rfl (.cons rfl .nil)))))) rfl rfl (fun _ => rfl) rfl rfl rfl
  · intro hg7_3
    refine l_move rfl rfl rfl ?_
    have h0 := ne_len hg7_3
    refine v_gets (j := 0) rfl rfl Try.underlying9 rfl rfl (by omega) (by first | omega | (simp; omega) | (simp; done)) (fun hb7_4 => ?_)
    refine l_eql rfl rfl rfl rfl ?_
    refine l_nil ?_
    exact e_stays rfl (.cons rfl (congrArg Value.bool (decide_eq_true hg7_3).symm) (.cons rfl rfl (.cons rfl rfl (.cons rfl rfl (.cons rfl rfl (.cons rfl rfl .nil))))))
  refine l_nil ?_
  refine e_then ?_
  refine c_keep [1, 3, 5, 6, 9, 61] (.cons rfl (.cons rfl (.cons rfl (.cons rfl (.cons rfl (.cons rfl .nil)))))) ?_
  first | refine c_cond rfl (fun hc1 => ?_) (fun hc1 => ?_) | refine c_condb rfl (fun hc1 => ?_) (fun hc1 => ?_)
  · skip
    refine c_skip ?_
    refine e_then ?_
    refine c_keep [1, 3, 5, 6, 9] (.cons rfl (.cons rfl (.cons rfl (.cons rfl (.cons rfl .nil))))) ?_
    refine c_block ?_
    refine c_region ?_
    refine l_move rfl rfl rfl ?_
    have h0 := ne_len hc1.1
    refine l_slices (l := 1) (h := ((whl wl bl ++ dgs bl).drop z).length) rfl rfl Try.underlying9 rfl rfl rfl (by first | rfl | (simp; done) | (simp; omega)) (by first | rfl | (simp; done) | (simp; omega)) (by omega) (by first | omega | (simp; omega) | (simp; done)) ?_
    refine l_assign rfl rfl rfl ?_
    refine l_nil ?_
    refine e_blk ?_
    refine e_againk (i := (z)) (z + 1) ?_ ?_ (.cons rfl (.cons rfl (.cons rfl (.cons rfl .nil)))) ?_
    · have := ne_len hc1.1
      show (whl wl bl ++ dgs bl).length - (z + 1) < (whl wl bl ++ dgs bl).length - z
      omega
    · refine ⟨hw8, by have := ne_len hc1.1; omega, fun j hj => ?_⟩
      rcases Nat.lt_or_ge j z with h | h
      · exact hzs j h
      · obtain rfl : j = z := by omega
        have := hc1.2
        rw [getD_drop] at this
        exact (u8_eq (d := 48)).1 this
    · exact (.cons rfl (by rw [List.take_length, List.drop_drop]) .nil)
  · skip
    refine c_exit ?_
    refine e_then_exit ?_
    refine e_then_exit ?_
    refine e_blk_exit ?_
    refine e_then ?_
    refine c_keep [1, 3, 5, 6, 9] (.cons rfl (.cons rfl (.cons rfl (.cons rfl (.cons rfl .nil))))) ?_
    refine c_seq ?_
    refine c_seq ?_
    refine c_region ?_
    obtain ⟨L, hLe⟩ : ∃ L, L = skip0 (whl wl bl ++ dgs bl) := ⟨_, rfl⟩
    have hsk : L = (whl wl bl ++ dgs bl).drop z := by rw [hLe]; exact skip0_drop _ z hz hzs (fun h h2 => hc1 ⟨fun e => by rw [e] at hlz; simp at hlz; omega, by rw [getD_drop]; exact (u8_eq (d := 48)).2 h2⟩)
    refine l_turn (s := 9) (v' := str L) rfl (by rw [hsk]) ?_
    rw [← hLe] at hg1
    have hLl : L.length ≤ 80 := by rw [hsk, List.length_drop]; omega
    have hdL : ∀ c ∈ L, isD c := fun c hc => by
      rw [hLe] at hc
      rcases List.mem_append.1 (skip0_mem hc) with h | h
      · exact whl_isD wl bl c h
      · exact dgs_isD bl c h
    refine l_move rfl rfl rfl ?_
    refine l_eqls rfl rfl rfl rfl ?_
    refine l_nil ?_
    refine e_then ?_
    refine c_keep [1, 3, 5, 6, 9, 65] (.cons rfl (.cons rfl (.cons rfl (.cons rfl (.cons rfl (.cons rfl .nil)))))) ?_
    first | refine c_cond rfl (fun hc2 => ?_) (fun hc2 => ?_) | refine c_condb rfl (fun hc2 => ?_) (fun hc2 => ?_)
    · skip
      refine c_seq ?_
      refine c_region ?_
      obtain ⟨rfl, rfl, rfl⟩ := numG_nil hg1 hc2
      refine l_field fo27_2 rfl rfl rfl ?_
      refine l_load_blk hw8 mem0 rfl rfl Try.underlying25 rfl rfl rfl ?_
      refine l_eql rfl rfl rfl rfl ?_
      refine l_turn (s := 68) (v' := .bool true) rfl (by rfl) ?_
      refine l_move rfl rfl rfl ?_
      refine l_field fo27_3 rfl rfl rfl ?_
      refine l_load_blk hw8 mem0 rfl rfl Try.underlying3 rfl rfl rfl ?_
      refine l_eql rfl rfl rfl rfl ?_
      refine l_turn (s := 72) (v' := .bool true) rfl (by rfl) ?_
      refine l_pick_t rfl rfl rfl rfl ?_
      refine l_move rfl rfl rfl ?_
      refine l_field fo27_4 rfl rfl rfl ?_
      refine l_load_blk hw8 mem0 rfl rfl Try.underlying4 rfl rfl rfl ?_
      first | refine l_notd rfl rfl rfl ?_ | refine l_not rfl rfl rfl ?_
      refine l_turn (s := 77) (v' := .bool true) rfl (by rfl) ?_
      refine l_pick_t rfl rfl rfl rfl ?_
      refine l_move rfl rfl rfl ?_
      refine l_call rfl rfl Try.func15 rfl rfl .nil (wakesL w8) ?_
      rintro _ w9 ⟨rfl, hG⟩
      have hw9 := hG _ _ _ _ hw8
      try clear hG hw8
      simp only [List.cons_append, List.nil_append] at hw9
      refine l_turn (s := 80) (v' := .bool true) rfl (by rfl) ?_
      refine l_pick_t rfl rfl rfl rfl ?_
      refine l_assign rfl rfl rfl ?_
      refine l_nil ?_
      refine e_then ?_
      refine c_keep [2] (.cons rfl .nil) ?_
      refine c_ret ?_
      refine e_then_ret ?_
      refine e_done1 Try.results8 rfl ?_
      refine ⟨_, rfl, ?_⟩
      have hw10 := St.del (.tail (.tail .head)) hw9
      try clear hw9
      have hw11 := St.del (.tail .head) hw10
      try clear hw10
      have hw12 := St.del .head hw11
      try clear hw11
      exact ⟨rfl, hw12.grows⟩
    · skip
      refine c_skip ?_
      refine e_then ?_
      refine c_keep [1, 3, 5, 6, 9] (.cons rfl (.cons rfl (.cons rfl (.cons rfl (.cons rfl .nil))))) ?_
      refine c_seq ?_
      refine c_region ?_
      obtain ⟨hman, hxx, hmore⟩ := numG_num hg1 hc2
      have hL0 := ne_len hc2
      refine l_move rfl rfl rfl ?_
      refine l_assign rfl rfl rfl ?_
      refine l_nil ?_
      refine e_then ?_
      refine c_keep [1, 3, 5, 6, 9, 10] (.cons rfl (.cons rfl (.cons rfl (.cons rfl (.cons rfl (.cons rfl .nil)))))) ?_
      refine c_cutk (ι := L8 × Nat) (fun (z0 : L8 × Nat) (w' : World) => match z0 with | ⟨K, m⟩ => St w w.heap.size None' ([As.blk b3_7 27 [.bool ng1, .int .i64 wd1, .int .u64 man1, .int .i64 x1, .bool more1], As.iv v3_1 (bys (txT wl bl (x0.tmod 30000) neg point plus great)), As.blk b0_0 38 [wv, bv, .int .i64 (x0.tmod 30000), .bool neg, .bool point, .bool plus, .bool great]]) w' ∧ K = L.take (L.length - (L.length - 19)) ∧ K.length = m ∧ L.length - (L.length - 19) = m) (fun (z0 : L8 × Nat) => match z0 with | ⟨K, m⟩ => [(10, str K)]) [1, 3, 5, 6, 9] (.cons rfl (.cons rfl (.cons rfl (.cons rfl (.cons rfl .nil))))) ?_ ?_
      · skip
        refine c_seq ?_
        refine c_region ?_
        refine l_move rfl rfl rfl ?_
        refine l_lenstr rfl rfl Try.underlying9 rfl ?_
        refine l_gtr rfl rfl rfl rfl ?_
        refine l_nil ?_
        refine e_then ?_
        refine c_keep [1, 3, 5, 6, 9, 10, 85] (.cons rfl (.cons rfl (.cons rfl (.cons rfl (.cons rfl (.cons rfl (.cons rfl .nil))))))) ?_
        first | refine c_cond rfl (fun hc3 => ?_) (fun hc3 => ?_) | refine c_condb rfl (fun hc3 => ?_) (fun hc3 => ?_)
        · skip
          refine c_region ?_
          refine l_move rfl rfl rfl ?_
          refine l_slices (l := 0) (h := 19) rfl rfl Try.underlying9 rfl rfl rfl (by first | rfl | (simp; done) | (simp; omega)) (by first | rfl | (simp; done) | (simp; omega)) (by omega) (by first | omega | (simp; omega) | (simp; done)) ?_
          refine l_turn (s := 87) (v' := str (L.take 19)) rfl (by rw [List.drop_zero]) ?_
          refine l_assign rfl rfl rfl ?_
          refine l_nil ?_
          refine e_meetk (L.take 19, 19) ?_ (.cons rfl (.cons rfl (.cons rfl (.cons rfl (.cons rfl .nil))))) ?_
          · exact ⟨hw8, by rw [show L.length - (L.length - 19) = 19 from by omega], by rw [List.length_take]; omega, by omega⟩
          · exact (.cons rfl (by first | rfl | (refine congrArg (Value.int _) ?_; omega)) .nil)
        · skip
          refine c_skip ?_
          refine e_meetk (L, L.length) ?_ (.cons rfl (.cons rfl (.cons rfl (.cons rfl (.cons rfl .nil))))) ?_
          · exact ⟨hw8, by rw [List.take_of_length_le (by omega)], rfl, by omega⟩
          · exact (.cons rfl (by first | rfl | (refine congrArg (Value.int _) ?_; omega)) .nil)
      rintro ⟨K, m⟩ w13 ⟨hw13, hK, hKl, hKm⟩
      show RunC P _ _ _ (_ :: _) _
      refine c_seq ?_
      refine c_region ?_
      refine l_assign rfl rfl rfl ?_
      refine l_nil ?_
      refine e_then ?_
      refine c_seq ?_
      refine c_seq ?_
      refine c_region ?_
      refine l_move rfl rfl rfl ?_
      refine l_lenstr rfl rfl Try.underlying9 rfl ?_
      refine l_assign rfl rfl rfl ?_
      refine l_nil ?_
      refine e_then ?_
      refine c_keep [1, 3, 5, 6, 9, 10, 11, 12] (.cons rfl (.cons rfl (.cons rfl (.cons rfl (.cons rfl (.cons rfl (.cons rfl (.cons rfl .nil)))))))) ?_
      refine c_block ?_
      refine c_loopk (ι := Nat × Bool) (fun (z0 : Nat × Bool) => match z0 with | ⟨k, mb⟩ => L.length - k) (fun (z0 : Nat × Bool) (w' : World) => match z0 with | ⟨k, mb⟩ => St w w.heap.size None' ([As.blk b3_7 27 [.bool ng1, .int .i64 wd1, .int .u64 man1, .int .i64 x1, .bool more1], As.iv v3_1 (bys (txT wl bl (x0.tmod 30000) neg point plus great)), As.blk b0_0 38 [wv, bv, .int .i64 (x0.tmod 30000), .bool neg, .bool point, .bool plus, .bool great]]) w' ∧ m + k ≤ L.length ∧ mb = ((L.drop m).take k).any (fun c => !decide (c = 48))) (fun (z0 : Nat × Bool) => match z0 with | ⟨k, mb⟩ => [(11, .bool mb), (12, .int .i64 ((m + k : Nat) : Int))]) [1, 3, 5, 6, 9, 10] (0, false) ?_ (.cons rfl (.cons rfl (.cons rfl (.cons rfl (.cons rfl (.cons rfl .nil)))))) ?_ ?_
      · exact ⟨hw13, by omega, rfl⟩
      · exact (.cons rfl (by first | rfl | (refine congrArg (Value.int _) ?_; omega)) (.cons rfl (by rw [hKl]; rfl) .nil))
      rintro ⟨k, mb⟩ w14 ⟨hw14, hk, hmb⟩
      show RunC P _ _ _ (_ :: _) _
      refine c_seq ?_
      refine c_seq ?_
      refine c_region ?_
      skip
      refine l_move rfl rfl rfl ?_
      refine l_move rfl rfl rfl ?_
      refine l_lenstr rfl rfl Try.underlying9 rfl ?_
      refine l_lss rfl rfl rfl rfl ?_
      refine l_nil ?_
      refine e_then ?_
      refine c_keep [1, 3, 5, 6, 9, 10, 11, 12, 93] (.cons rfl (.cons rfl (.cons rfl (.cons rfl (.cons rfl (.cons rfl (.cons rfl (.cons rfl (.cons rfl .nil))))))))) ?_
      first | refine c_cond rfl (fun hc4 => ?_) (fun hc4 => ?_) | refine c_condb rfl (fun hc4 => ?_) (fun hc4 => ?_)
      · skip
        refine c_skip ?_
        refine e_then ?_
        refine c_keep [1, 3, 5, 6, 9, 10, 11, 12] (.cons rfl (.cons rfl (.cons rfl (.cons rfl (.cons rfl (.cons rfl (.cons rfl (.cons rfl .nil)))))))) ?_
        refine c_seq ?_
        refine c_block ?_
        refine c_region ?_
        refine l_move rfl rfl rfl ?_
        refine l_move rfl rfl rfl ?_
        refine l_turn (s := 97) (v' := .bool (decide (mb = true))) rfl (by cases mb <;> rfl) ?_
        apply l_or 4 [1, 3, 5, 6, 9, 10, 11, 12] rfl rfl (.cons rfl (.cons rfl (.cons rfl (.cons rfl (.cons rfl (.cons rfl (.cons rfl (.cons rfl (.cons rfl .nil))))))))) rfl rfl (fun _ => rfl) rfl rfl rfl
        · intro hg18_2
          refine l_move rfl rfl rfl ?_
          refine l_move rfl rfl rfl ?_
          refine v_gets (j := m + k) rfl rfl Try.underlying9 rfl rfl (by omega) (by first | omega | (simp; omega) | (simp; done)) (fun hb18_4 => ?_)
          refine l_neq rfl rfl rfl rfl ?_
          refine l_nil ?_
          exact e_stays rfl (.cons rfl (congrArg Value.bool (decide_eq_false hg18_2).symm) (.cons rfl rfl (.cons rfl rfl (.cons rfl rfl (.cons rfl rfl (.cons rfl rfl (.cons rfl rfl (.cons rfl rfl (.cons rfl rfl .nil)))))))))
        refine l_assign rfl rfl rfl ?_
        refine l_nil ?_
        refine e_blk ?_
        refine e_then ?_
        refine c_keep [1, 3, 5, 6, 9, 10, 11, 12] (.cons rfl (.cons rfl (.cons rfl (.cons rfl (.cons rfl (.cons rfl (.cons rfl (.cons rfl .nil)))))))) ?_
        refine c_region ?_
        refine l_move rfl rfl rfl ?_
        refine l_add rfl rfl rfl rfl (w_i64 (by omega)) ?_
        refine l_assign rfl rfl rfl ?_
        refine l_nil ?_
        refine e_againk (i := (k, mb)) (k + 1, decide (mb = true ∨ ¬ (((L.getD (m + k) 0).toNat : Int)) = 48)) ?_ ?_ (.cons rfl (.cons rfl (.cons rfl (.cons rfl (.cons rfl (.cons rfl .nil)))))) ?_
        · first | omega | (simp; omega)
        · refine ⟨hw14, by omega, ?_⟩
          rw [any_snoc _ _ (by rw [List.length_drop]; omega), ← hmb, getD_drop]
          have e : (((L.getD (m + k) 0).toNat : Int) = 48) ↔ (L.getD (m + k) 0 = 48) := u8_eq (d := 48)
          generalize L.getD (m + k) 0 = cc at e ⊢
          by_cases h : cc = 48
          · have h2 := e.2 h
            simp [h]
          · have h2 : ¬ (cc.toNat : Int) = 48 := fun h3 => h (e.1 h3)
            rw [decide_eq_true (Or.inr h2), decide_eq_false h]
            simp
        · exact (.cons rfl (by first | rfl | (refine congrArg (Value.int _) ?_; omega)) (.cons rfl (by first | rfl | (refine congrArg (Value.int _) ?_; omega)) .nil))
      · skip
        refine c_exit ?_
        refine e_then_exit ?_
        refine e_then_exit ?_
        refine e_blk_exit ?_
        refine e_then ?_
        refine c_keep [1, 3, 5, 6, 9, 10, 11] (.cons rfl (.cons rfl (.cons rfl (.cons rfl (.cons rfl (.cons rfl (.cons rfl .nil))))))) ?_
        refine c_seq ?_
        refine c_region ?_
        refine l_move rfl rfl rfl ?_
        refine v_tobytes hw14 rfl rfl Try.underlying9 Try.underlying22 Try.underlying5 rfl (fun v19_1 w15 hw15 => ?_)
        try clear hw14
        refine l_call rfl rfl Try.func17 rfl rfl (.cons rfl .nil) (exactS _ (txT wl bl (x0.tmod 30000) neg point plus great) (by omega) w15 (hw15.ii mem0)) ?_
        rintro _ w16 ⟨vn, ls, n2, x2, e2, rfl, hcn, hEx, hG⟩
        have hw16 := hG _ _ _ _ hw15
        try clear hG hw15
        simp only [List.cons_append, List.nil_append] at hw16
        obtain ⟨rfl, rfl, rfl⟩ := hEx.form hf1 (by omega) (by rw [← hLe]; exact hc2)
        rw [← hLe] at hcn
        have hbl := blen_pv L.length L rfl hdL
        have hln := cn_len8 hcn (k := 4 * 80) (by omega)
        have hnv : nv ls = pv L := hcn.val
        have htx : dtx (pv L) = L := dtx_pv hdL hc2 (by rw [hLe]; exact skip0_head _ (by rw [← hLe]; exact hc2))
        refine l_move rfl rfl rfl ?_
        refine l_extract rfl rfl rfl rfl ?_
        refine l_extract rfl rfl rfl rfl ?_
        refine l_extract rfl rfl rfl rfl ?_
        refine l_assign rfl rfl rfl ?_
        refine l_assign rfl rfl rfl ?_
        refine l_assign rfl rfl rfl ?_
        refine l_nil ?_
        refine e_then ?_
        refine c_keep [1, 5, 6, 9, 10, 11, 13, 14, 15] (.cons rfl (.cons rfl (.cons rfl (.cons rfl (.cons rfl (.cons rfl (.cons rfl (.cons rfl (.cons rfl .nil))))))))) ?_
        refine c_seq ?_
        refine c_seq ?_
        refine c_region ?_
        refine l_move rfl rfl rfl ?_
        refine l_callp rfl rfl Try.func13 rfl rfl (.cons rfl .nil) (numL _ (by omega) _) ?_
        refine l_neq rfl rfl rfl rfl ?_
        refine l_turn (s := 112) (v' := .bool false) rfl (by rfl) ?_
        refine l_move rfl rfl rfl ?_
        refine l_move rfl rfl rfl ?_
        refine l_call rfl rfl Try.func23 rfl rfl (.cons rfl .nil) (textR vn ls (cnU hcn) (by omega) w16 (hw16.io mem0)) ?_
        rintro _ w17 ⟨rfl, hG⟩
        have hw17 := hG _ _ _ _ hw16
        try clear hG hw16
        simp only [List.cons_append, List.nil_append] at hw17
        refine l_move rfl rfl rfl ?_
        refine l_neqs rfl rfl rfl rfl ?_
        refine l_turn (s := 117) (v' := .bool false) rfl (by rw [hnv, htx]; simp) ?_
        refine l_pick_f rfl rfl rfl rfl ?_
        refine l_move rfl rfl rfl ?_
        refine l_move rfl rfl rfl ?_
        refine l_field fo38_2 rfl rfl rfl ?_
        refine l_load_blk hw17 mem4 rfl rfl Try.underlying3 rfl rfl rfl ?_
        refine l_move rfl rfl rfl ?_
        refine l_lenstr rfl rfl Try.underlying9 rfl ?_
        refine l_sub rfl rfl rfl rfl (w_i64 (by omega)) ?_
        refine l_neq rfl rfl rfl rfl ?_
        refine l_turn (s := 126) (v' := .bool false) rfl (by simp) ?_
        refine l_pick_f rfl rfl rfl rfl ?_
        refine l_nil ?_
        refine e_then ?_
        refine c_keep [1, 5, 6, 9, 10, 11, 127] (.cons rfl (.cons rfl (.cons rfl (.cons rfl (.cons rfl (.cons rfl (.cons rfl .nil))))))) ?_
        refine c_cond_f rfl rfl ?_
        refine c_skip ?_
        refine e_then ?_
        refine c_keep [1, 5, 6, 9, 10, 11] (.cons rfl (.cons rfl (.cons rfl (.cons rfl (.cons rfl (.cons rfl .nil)))))) ?_
        refine c_seq ?_
        refine c_region ?_
        have hmb2 : mb = more1 := by rw [hmb, hmore, ← hKm, List.take_of_length_le (by rw [List.length_drop]; omega)]
        have hdK : ∀ c ∈ K, isD c := fun c hc => hdL c (by rw [hK] at hc; exact List.mem_of_mem_take hc)
        have hK0 : K ≠ [] := fun e => by rw [e] at hKl; simp at hKl; omega
        have hKz : ¬ K.getD 0 0 = 48 := by
          have e : K.getD 0 0 = L.getD 0 0 := by rw [hK]; exact take_hd L (by omega)
          rw [e, hLe]; exact skip0_head _ (by rw [← hLe]; exact hc2)
        have htk : dtx (pv K) = K := dtx_pv hdK hK0 hKz
        have hpk := pv_bounds K.length K rfl hdK
        have hpk19 : (10 : Int) ^ K.length ≤ 10 ^ 19 := by
          have : (10 : Nat) ^ K.length ≤ 10 ^ 19 := Nat.pow_le_pow_right (by omega) (by omega)
          exact_mod_cast this
        rw [ten19] at hpk19
        rw [← hK] at hman
        subst hman
        refine l_field fo27_2 rfl rfl rfl ?_
        refine l_load_blk hw17 mem2 rfl rfl Try.underlying25 rfl rfl rfl ?_
        refine v_lit hw17 rfl rfl Try.underlying42 ti25 rfl (.cons rfl (by first | rfl | assumption) .nil) rfl rfl rfl (fun b22_2 w18 hw18 => ?_)
        try clear hw17
        refine l_call rfl rfl Try.func25 rfl rfl (.cons rfl .nil) (numR _ [pv K] (U.one (by omega)) (by simp) w18 (hw18.ibl mem0)) ?_
        rintro vm w19 ⟨_, lm, rfl, hRn, hG⟩
        have hw19 := hG _ _ _ _ hw18
        try clear hG hw18
        simp only [List.cons_append, List.nil_append] at hw19
        have hRy : R16 lm (pv K) := by simpa [Ma.vb] using hRn
        have hby : Ma.blen (pv K) ≤ (64 : Nat) := (Ma.blen_le_iff hpk.1 64).2 (by rw [show (2 : Int) ^ 64 = 18446744073709551616 from by decide]; omega)
        refine l_call rfl rfl Try.func24 rfl rfl (.cons rfl .nil) (digitsR vm lm (pv K) hRy (by have := hRy.len (k := 64) hby; omega) w19 (hw19.io mem0)) ?_
        rintro _ w20 ⟨rfl, hG⟩
        have hw20 := hG _ _ _ _ hw19
        try clear hG hw19
        simp only [List.cons_append, List.nil_append] at hw20
        refine l_move rfl rfl rfl ?_
        refine l_eqls rfl rfl rfl rfl ?_
        refine l_turn (s := 134) (v' := .bool true) rfl (by rw [htk]; simp) ?_
        refine l_move rfl rfl rfl ?_
        refine l_field fo27_4 rfl rfl rfl ?_
        refine l_load_blk hw20 mem4 rfl rfl Try.underlying4 rfl rfl rfl ?_
        refine l_move rfl rfl rfl ?_
        refine l_eqlb Try.underlying4 rfl rfl rfl rfl ?_
        refine l_turn (s := 139) (v' := .bool true) rfl (by rw [hmb2]; simp) ?_
        refine l_pick_t rfl rfl rfl rfl ?_
        refine l_move rfl rfl rfl ?_
        refine l_field fo27_3 rfl rfl rfl ?_
        refine l_load_blk hw20 mem4 rfl rfl Try.underlying3 rfl rfl rfl ?_
        refine l_field fo38_2 rfl rfl rfl ?_
        refine l_load_blk hw20 mem6 rfl rfl Try.underlying3 rfl rfl rfl ?_
        refine l_move rfl rfl rfl ?_
        refine l_lenstr rfl rfl Try.underlying9 rfl ?_
        refine l_sub rfl rfl rfl rfl (w_i64 (by omega)) ?_
        refine l_move rfl rfl rfl ?_
        refine l_lenstr rfl rfl Try.underlying9 rfl ?_
        refine l_add rfl rfl rfl rfl (w_i64 (by omega)) ?_
        refine l_move rfl rfl rfl ?_
        refine l_lenstr rfl rfl Try.underlying9 rfl ?_
        refine l_sub rfl rfl rfl rfl (w_i64 (by omega)) ?_
        refine l_eql rfl rfl rfl rfl ?_
        refine l_turn (s := 155) (v' := .bool true) rfl (by rw [decide_eq_true (by omega)]) ?_
        refine l_pick_t rfl rfl rfl rfl ?_
        refine l_move rfl rfl rfl ?_
        refine l_call rfl rfl Try.func15 rfl rfl .nil (wakesL w20) ?_
        rintro _ w21 ⟨rfl, hG⟩
        have hw21 := hG _ _ _ _ hw20
        try clear hG hw20
        simp only [List.cons_append, List.nil_append] at hw21
        refine l_turn (s := 158) (v' := .bool true) rfl (by rfl) ?_
        refine l_pick_t rfl rfl rfl rfl ?_
        refine l_assign rfl rfl rfl ?_
        refine l_nil ?_
        refine e_then ?_
        refine c_keep [2] (.cons rfl .nil) ?_
        refine c_ret ?_
        refine e_done1 Try.results8 rfl ?_
        refine ⟨_, rfl, ?_⟩
        have hw22 := St.del (.tail (.tail (.tail (.tail (.tail (.tail .head)))))) hw21
        try clear hw21
        have hw23 := St.del (.tail (.tail (.tail (.tail (.tail .head))))) hw22
        try clear hw22
        have hw24 := St.del (.tail (.tail (.tail (.tail .head)))) hw23
        try clear hw23
        have hw25 := St.del (.tail (.tail (.tail .head))) hw24
        try clear hw24
        have hw26 := St.del (.tail (.tail .head)) hw25
        try clear hw25
        have hw27 := St.del (.tail .head) hw26
        try clear hw26
        have hw28 := St.del .head hw27
        try clear hw27
        exact ⟨rfl, hw28.grows⟩
end Go.Proofs.Ytjkaahnadaapoaa.W
