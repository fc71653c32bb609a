/- walk of the law CacheWarms -/
import Derived.Test.YtggdkplphfofkaaCe
set_option linter.unusedVariables false
set_option linter.unusedSimpArgs false
set_option maxRecDepth 10000
namespace Go.Proofs.Ytggdkplphfofkaa.W
open Go.Vc Go.RowKit

theorem tmod_bd {a w : Int} (h : 0 < w) : -w < a.tmod w ∧ a.tmod w < w := by
  by_cases h0 : 0 ≤ a
  · rw [Int.tmod_eq_emod_of_nonneg h0]
    have := Int.emod_nonneg a (show w ≠ 0 by omega)
    have := Int.emod_lt_of_pos a h
    omega
  · have e := Int.neg_tmod (a := a) (b := w)
    rw [Int.tmod_eq_emod_of_nonneg (show 0 ≤ -a by omega)] at e
    have := Int.emod_nonneg (-a) (show w ≠ 0 by omega)
    have := Int.emod_lt_of_pos (-a) h
    omega
def witF (n lo hi : Int) : Int := if n.tmod (hi - lo + 1) < 0 then lo + (n.tmod (hi - lo + 1) + (hi - lo + 1)) else lo + n.tmod (hi - lo + 1)
theorem witF_bd {n lo hi : Int} (h : lo ≤ hi) : lo ≤ witF n lo hi ∧ witF n lo hi ≤ hi := by
  have := tmod_bd (a := n) (w := hi - lo + 1) (by omega)
  unfold witF
  split <;> omega
/-- an exponent out of any number -/
abbrev eQ (x : Int) : Int := witF x (-342) 308
theorem eQ_in (x : Int) : inQ (eQ x) := witF_bd (by omega)
theorem eQ_all (l : List Int) : ∀ q ∈ l.map eQ, inQ q := fun q hq => by
  obtain ⟨x, _, rfl⟩ := List.mem_map.1 hq
  exact eQ_in x
theorem eQ_rg (l : List Int) : Rg (-9223372036854775808) 9223372036854775807 (l.map eQ) := fun q hq => by
  have := eQ_all l q hq
  unfold inQ at this
  omega
theorem take_snoc' {l : List Int} {i : Nat} (h : i < l.length) : l.take (i + 1) = l.take i ++ [l.getD i 0] := by
  rw [List.take_add_one, List.getD_eq_getElem?_getD, List.getElem?_eq_getElem h]
  rfl
theorem ints_snoc (k : IntKind) (l : List Int) (x : Int) : ints k (l ++ [x]) = ints k l ++ [.int k x] := by simp [ints]
theorem St_argR {w0 w : World} {B : Nat} {M : Nat → Prop} {σ τ : List As} (hw : St w0 B M (τ ++ σ) w) {A : As} (hA : A ∈ σ) {R : World → Prop} (h : ∀ w1, A.ok w1 → R w1) : ∀ w1 : World, (∀ k, k < w.heap.size → ¬ fps τ k → w1.heap[k]? = w.heap[k]?) → R w1 := fun w1 h1 =>
  h w1 (A.loc w w1 (fun k hk => h1 k (hw.sep.lt (List.mem_append_right _ hA) k hk).2 fun ⟨X, hX, hk'⟩ => hw.sep.cross X hX A hA k hk' hk) (hw.sep.ok (List.mem_append_right _ hA)))
theorem map_snoc {l : List Int} {i : Nat} (h : i < l.length) (f : Int → Int) : (l.take (i + 1)).map f = (l.take i).map f ++ [f (l.getD i 0)] := by
  rw [take_snoc' h, List.map_append]
  rfl

theorem withinW (n lo hi : Int) (hn : -9223372036854775808 ≤ n ∧ n ≤ 9223372036854775807) (hlo : lo ≤ hi ∧ hi ≤ 1000000 ∧ -1000000 ≤ lo) (w : World) :
    CallsV P 8 [.int .i64 n, .int .i64 lo, .int .i64 hi] w fun r w' => r = .int .i64 (witF n lo hi) ∧ w = w' := by
  refine enterW Try.func8 rfl Try.ntmps8 rfl ?_
  have htm := tmod_bd (a := n) (w := hi - lo + 1) (by omega)
  refine c_seq ?_
  refine c_region ?_
  refine l_assign rfl rfl rfl ?_
  refine l_nil ?_
  refine e_then ?_
  refine c_keep [0, 1, 2] (.cons rfl (.cons rfl (.cons rfl .nil))) ?_
  refine c_seq ?_
  refine c_region ?_
  refine l_move rfl rfl rfl ?_
  refine l_move rfl rfl rfl ?_
  refine l_sub rfl rfl rfl rfl (w_i64 (by omega)) ?_
  refine l_add rfl rfl rfl rfl (w_i64 (by omega)) ?_
  refine l_assign rfl rfl rfl ?_
  refine l_nil ?_
  refine e_then ?_
  refine c_keep [0, 1, 7] (.cons rfl (.cons rfl (.cons rfl .nil))) ?_
  refine c_seq ?_
  refine c_region ?_
  refine l_move rfl rfl rfl ?_
  refine l_move rfl rfl rfl ?_
  refine l_rem rfl rfl rfl rfl (by omega) (rfl) ?_
  refine l_assign rfl rfl rfl ?_
  refine l_nil ?_
  refine e_then ?_
  refine c_keep [0, 1, 7] (.cons rfl (.cons rfl (.cons rfl .nil))) ?_
  refine c_seq ?_
  refine c_seq ?_
  refine c_region ?_
  refine l_move rfl rfl rfl ?_
  refine l_lss rfl rfl rfl rfl ?_
  refine l_nil ?_
  refine e_then ?_
  refine c_keep [0, 1, 7, 16] (.cons rfl (.cons rfl (.cons rfl (.cons rfl .nil)))) ?_
  first | refine c_cond rfl (fun hc0 => ?_) (fun hc0 => ?_) | refine c_condb rfl (fun hc0 => ?_) (fun hc0 => ?_)
  · skip
    refine c_region ?_
    refine l_move rfl rfl rfl ?_
    refine l_move rfl rfl rfl ?_
    refine l_add rfl rfl rfl rfl (w_i64 (by omega)) ?_
    refine l_assign rfl rfl rfl ?_
    refine l_nil ?_
    refine e_then ?_
    refine c_keep [0, 1] (.cons rfl (.cons rfl .nil)) ?_
    refine c_seq ?_
    refine c_region ?_
    refine l_move rfl rfl rfl ?_
    refine l_move rfl rfl rfl ?_
    refine l_add rfl rfl rfl rfl (w_i64 (by omega)) ?_
    refine l_assign rfl rfl rfl ?_
    refine l_nil ?_
    refine e_then ?_
    refine c_keep [6] (.cons rfl .nil) ?_
    refine c_ret ?_
    refine e_done1 Try.results8 rfl ?_
    refine ⟨_, rfl, ?_⟩
    exact ⟨congrArg (Value.int .i64) (by unfold witF; rw [if_pos hc0]), rfl⟩
  · skip
    refine c_skip ?_
    refine e_then ?_
    refine c_keep [0, 1] (.cons rfl (.cons rfl .nil)) ?_
    refine c_seq ?_
    refine c_region ?_
    refine l_move rfl rfl rfl ?_
    refine l_move rfl rfl rfl ?_
    refine l_add rfl rfl rfl rfl (w_i64 (by omega)) ?_
    refine l_assign rfl rfl rfl ?_
    refine l_nil ?_
    refine e_then ?_
    refine c_keep [6] (.cons rfl .nil) ?_
    refine c_ret ?_
    refine e_done1 Try.results8 rfl ?_
    refine ⟨_, rfl, ?_⟩
    exact ⟨congrArg (Value.int .i64) (by unfold witF; rw [if_neg hc0]), rfl⟩
theorem cacheWarmsL (v : Value) (l : List Int) (bad : Int) (hl : Rg (-9223372036854775808) 9223372036854775807 l) (hbad : -9223372036854775808 ≤ bad ∧ bad ≤ 9223372036854775807) (w : World) (hv : IV w v (ints .i64 l)) :
    CallsV P 5 [v, .int .i64 bad] w fun r w' => r = .bool true ∧ Grow w w' [] := by
  refine enterW Try.func5 rfl Try.ntmps5 rfl ?_
  have hw0 := St.start w
  refine c_seq ?_
  refine c_region ?_
  refine l_assign rfl rfl rfl ?_
  refine l_nil ?_
  refine e_then ?_
  refine c_keep [0, 1] (.cons rfl (.cons rfl .nil)) ?_
  refine c_cutk (ι := Value × List Int) (fun (z0 : Value × List Int) (w' : World) => match z0 with | ⟨v2, l2⟩ => St w w.heap.size None' ([]) w' ∧ IV w v2 (ints .i64 l2) ∧ l2.length ≤ 60 ∧ Rg (-9223372036854775808) 9223372036854775807 l2) (fun (z0 : Value × List Int) => match z0 with | ⟨v2, l2⟩ => [(0, v2)]) [1] (.cons rfl .nil) ?_ ?_
  · skip
    refine c_seq ?_
    refine c_region ?_
    refine l_move rfl rfl rfl ?_
    refine v_leni rfl rfl Try.underlying22 rfl (by first | exact hw0.iarg hv | exact hw0.iarg hv2 | assumption) ?_
    refine l_gtr rfl rfl rfl rfl ?_
    refine l_nil ?_
    refine e_then ?_
    refine c_keep [0, 1, 13] (.cons rfl (.cons rfl (.cons rfl .nil))) ?_
    first | refine c_cond rfl (fun hc0 => ?_) (fun hc0 => ?_) | refine c_condb rfl (fun hc0 => ?_) (fun hc0 => ?_)
    · skip
      refine c_region ?_
      refine l_move rfl rfl rfl ?_
      refine v_cut (l := 0) (h := 60) rfl rfl Try.underlying22 tz3 rfl rfl rfl rfl hv (by first | rfl | (simp; done) | (simp; omega)) (by first | rfl | (simp; done) | (simp; omega)) (.inl rfl) (by simp) (by omega) (by first | omega | (simp; omega) | (simp; done)) (fun v2_1 h2_1 ho2_1 => ?_)
      refine l_assign rfl rfl rfl ?_
      refine l_nil ?_
      refine e_meetk (v2_1, l.take 60) ?_ (.cons rfl .nil) ?_
      · have e : ((ints .i64 l).take 60).drop 0 = ints .i64 (l.take 60) := by simp [ints, List.map_take]
        rw [e] at h2_1
        exact ⟨hw0, h2_1, by rw [List.length_take]; omega, fun x hx => hl x (List.mem_of_mem_take hx)⟩
      · exact (.cons rfl (by first | rfl | (refine congrArg (Value.int _) ?_; omega)) .nil)
    · skip
      refine c_skip ?_
      refine e_meetk (v, l) ?_ (.cons rfl .nil) ?_
      · exact ⟨hw0, hv, by omega, hl⟩
      · exact (.cons rfl (by first | rfl | (refine congrArg (Value.int _) ?_; omega)) .nil)
  rintro ⟨v2, l2⟩ w1 ⟨hw1, hv2, hl60, hl2⟩
  show RunC P _ _ _ (_ :: _) _
  refine c_seq ?_
  refine c_region ?_
  refine l_call rfl rfl Try.func6 rfl rfl .nil (newC w1) ?_
  rintro _ w2 ⟨ka, rfl, hG⟩
  have hw2 := hG _ _ _ _ hw1
  try clear hG hw1
  simp only [List.cons_append, List.nil_append] at hw2
  refine l_call rfl rfl Try.func6 rfl rfl .nil (newC w2) ?_
  rintro _ w3 ⟨kb, rfl, hG⟩
  have hw3 := hG _ _ _ _ hw2
  try clear hG hw2
  simp only [List.cons_append, List.nil_append] at hw3
  refine l_assign rfl rfl rfl ?_
  refine l_assign rfl rfl rfl ?_
  refine l_nil ?_
  refine e_then ?_
  refine c_keep [0, 1, 5, 6] (.cons rfl (.cons rfl (.cons rfl (.cons rfl .nil)))) ?_
  refine c_seq ?_
  refine c_seq ?_
  refine c_region ?_
  refine l_move rfl rfl rfl ?_
  refine l_eqlp (by kernel_rfl) rfl rfl rfl rfl ?_
  refine l_turn (s := 19) (v' := .bool false) rfl (by rfl) ?_
  refine l_move rfl rfl rfl ?_
  refine l_move rfl rfl rfl ?_
  refine l_eqlp (by kernel_rfl) rfl rfl rfl rfl ?_
  refine l_turn (s := 22) (v' := .bool false) rfl (by rfl) ?_
  refine l_pick_f rfl rfl rfl rfl ?_
  refine l_move rfl rfl rfl ?_
  refine l_call rfl rfl Try.func7 rfl rfl .nil (wakesL7 w3) ?_
  rintro _ w4 ⟨rfl, hG⟩
  have hw4 := hG _ _ _ _ hw3
  try clear hG hw3
  simp only [List.cons_append, List.nil_append] at hw4
  refine l_turn (s := 25) (v' := .bool true) rfl (by rfl) ?_
  first | refine l_notd rfl rfl rfl ?_ | refine l_not rfl rfl rfl ?_
  refine l_turn (s := 26) (v' := .bool false) rfl (by rfl) ?_
  refine l_pick_f rfl rfl rfl rfl ?_
  refine l_nil ?_
  refine e_then ?_
  refine c_keep [0, 1, 5, 6, 27] (.cons rfl (.cons rfl (.cons rfl (.cons rfl (.cons rfl .nil))))) ?_
  refine c_cond_f rfl rfl ?_
  refine c_skip ?_
  refine e_then ?_
  refine c_keep [0, 1, 5, 6] (.cons rfl (.cons rfl (.cons rfl (.cons rfl .nil)))) ?_
  refine c_seq ?_
  refine c_region ?_
  refine l_assign rfl rfl rfl ?_
  refine l_nil ?_
  refine e_then ?_
  refine c_seq ?_
  refine c_seq ?_
  refine c_region ?_
  refine l_assign rfl rfl rfl ?_
  refine l_nil ?_
  refine e_then ?_
  refine c_block ?_
  refine c_loopk (ι := Nat × Value) (fun (z0 : Nat × Value) => match z0 with | ⟨i, vq⟩ => l2.length - i) (fun (z0 : Nat × Value) (w' : World) => match z0 with | ⟨i, vq⟩ => St w w.heap.size None' ([As.ri 3 .i64 vq ((l2.take i).map eQ), As.blk kb 69 (cacC (List.replicate 41 none)), As.many (inR (List.replicate 41 none)), As.blk ka 69 (cacC (List.replicate 41 none)), As.many (inR (List.replicate 41 none))]) w' ∧ i ≤ l2.length) (fun (z0 : Nat × Value) => match z0 with | ⟨i, vq⟩ => [(7, vq), (8, .int .i64 (i : Int))]) [0, 1, 5, 6] (0, .slice none 0 0) ?_ (.cons rfl (.cons rfl (.cons rfl (.cons rfl .nil)))) ?_ ?_
  · exact ⟨hw4.nil 3, by omega⟩
  · exact (.cons rfl (by first | rfl | (refine congrArg (Value.int _) ?_; omega)) (.cons rfl (by first | rfl | (refine congrArg (Value.int _) ?_; omega)) .nil))
  rintro ⟨i, vq⟩ w5 ⟨hw5, hi⟩
  show RunC P _ _ _ (_ :: _) _
  refine c_seq ?_
  refine c_seq ?_
  refine c_region ?_
  refine l_move rfl rfl rfl ?_
  refine l_move rfl rfl rfl ?_
  refine v_leni rfl rfl Try.underlying22 rfl (by first | exact hw5.io mem0 | exact hw5.ibl mem1 | exact hw5.ibl mem3 | exact hw5.iarg hv | exact hw5.iarg hv2 | assumption) ?_
  refine l_lss rfl rfl rfl rfl ?_
  refine l_nil ?_
  refine e_then ?_
  refine c_keep [0, 1, 5, 6, 7, 8, 31] (.cons rfl (.cons rfl (.cons rfl (.cons rfl (.cons rfl (.cons rfl (.cons rfl .nil))))))) ?_
  first | refine c_cond rfl (fun hc2 => ?_) (fun hc2 => ?_) | refine c_condb rfl (fun hc2 => ?_) (fun hc2 => ?_)
  · skip
    refine c_skip ?_
    refine e_then ?_
    refine c_keep [0, 1, 5, 6, 7, 8] (.cons rfl (.cons rfl (.cons rfl (.cons rfl (.cons rfl (.cons rfl .nil)))))) ?_
    refine c_seq ?_
    refine c_block ?_
    refine c_region ?_
    have hi1 : i < l2.length := by omega
    refine l_move rfl rfl rfl ?_
    refine l_move rfl rfl rfl ?_
    refine l_move rfl rfl rfl ?_
    refine v_getr (j := i) rfl rfl rfl rfl Try.underlying22 tz3 Try.underlying3 rfl rfl (by first | exact hw5.io mem0 | exact hw5.ibl mem1 | exact hw5.ibl mem3 | exact hw5.iarg hv | exact hw5.iarg hv2 | assumption) (by assumption) rfl (by omega) (by first | omega | (simp; done) | (simp; omega)) (fun hb10_3 => ?_)
    have hbq := hl2 (l2.getD i 0) (by rw [show l2.getD i 0 = l2[i] from by simp [List.getD, hi1]]; exact List.getElem_mem hi1)
    refine l_callp rfl rfl Try.func8 rfl rfl (.cons rfl (.cons rfl (.cons rfl .nil))) (withinW (l2.getD i 0) (-342) 308 (by omega) (by omega) _) ?_
    refine v_lit hw5 rfl rfl Try.underlying22 ti3 rfl (.cons rfl (by first | rfl | assumption) .nil) rfl rfl rfl (fun b10_6 w6 hw6 => ?_)
    try clear hw5
    refine v_push hw6 rfl rfl Try.underlying22 ti3 rfl rfl rfl rfl (by first | (simp [Value.oneCell']; done) | (intro u hu; rw [List.mem_singleton.1 hu]; assumption)) (by first | (simp; done) | (simp; omega)) (by first | (simp; done) | (simp; omega)) (fun v10_7 w7 hw7 => ?_)
    try clear hw6
    refine l_assign rfl rfl rfl ?_
    refine l_nil ?_
    refine e_blk ?_
    refine e_then ?_
    refine c_keep [0, 1, 5, 6, 7, 8] (.cons rfl (.cons rfl (.cons rfl (.cons rfl (.cons rfl (.cons rfl .nil)))))) ?_
    refine c_region ?_
    refine l_move rfl rfl rfl ?_
    refine l_add rfl rfl rfl rfl (w_i64 (by omega)) ?_
    refine l_assign rfl rfl rfl ?_
    refine l_nil ?_
    refine e_againk (i := (i, vq)) (i + 1, v10_7) ?_ ?_ (.cons rfl (.cons rfl (.cons rfl (.cons rfl .nil)))) ?_
    · first | omega | (simp; omega)
    · exact ⟨hw7.cast (by unfold As.ri; rw [map_snoc hi1, ints_snoc]), by omega⟩
    · exact (.cons rfl (by first | rfl | (refine congrArg (Value.int _) ?_; omega)) (.cons rfl (by first | rfl | (refine congrArg (Value.int _) ?_; omega)) .nil))
  · skip
    refine c_exit ?_
    refine e_then_exit ?_
    refine e_then_exit ?_
    refine e_blk_exit ?_
    refine e_then ?_
    refine c_keep [1, 5, 6, 7] (.cons rfl (.cons rfl (.cons rfl (.cons rfl .nil)))) ?_
    refine c_cutk (ι := Unit) (fun (z : Unit) (w' : World) => St w w.heap.size None' ([As.blk kb 69 (cacC (List.replicate 41 none)), As.many (inR (List.replicate 41 none)), As.blk ka 69 (cacC (List.replicate 41 none)), As.many (inR (List.replicate 41 none)), As.ri 3 .i64 vq (l2.map eQ)]) w' ∧ True) (fun (z : Unit) => []) [5, 6, 7] (.cons rfl (.cons rfl (.cons rfl .nil))) ?_ ?_
    · skip
      refine c_seq ?_
      refine c_region ?_
      obtain rfl : i = l2.length := by omega
      rw [List.take_length] at hw5
      refine l_move rfl rfl rfl ?_
      refine l_gtr rfl rfl rfl rfl ?_
      refine l_move rfl rfl rfl ?_
      apply l_or 2 [1, 5, 6, 7] rfl rfl (.cons rfl (.cons rfl (.cons rfl (.cons rfl (.cons rfl .nil))))) rfl rfl (fun _ => rfl) rfl rfl rfl
      · intro hg11_3
        refine l_move rfl rfl rfl ?_
        refine l_lss rfl rfl rfl rfl ?_
        refine l_nil ?_
        exact e_stays rfl (.cons rfl (congrArg Value.bool (decide_eq_false hg11_3).symm) (.cons rfl rfl (.cons rfl rfl (.cons rfl rfl (.cons rfl rfl .nil)))))
      refine l_nil ?_
      refine e_then ?_
      refine c_keep [1, 5, 6, 7, 47] (.cons rfl (.cons rfl (.cons rfl (.cons rfl (.cons rfl .nil))))) ?_
      first | refine c_cond rfl (fun hc3 => ?_) (fun hc3 => ?_) | refine c_condb rfl (fun hc3 => ?_) (fun hc3 => ?_)
      · skip
        refine c_seq ?_
        refine c_region ?_
        refine l_move rfl rfl rfl ?_
        refine v_lit0 hw5 rfl rfl Try.underlying22 tz3 (fun v12_1 w8 hw8 => ?_)
        try clear hw5
        refine l_move rfl rfl rfl ?_
        refine v_append0 hw8 rfl rfl Try.underlying22 ti3 rfl rfl rfl (by first | exact hw8.io mem0 | exact hw8.io mem1 | exact hw8.ibl mem2 | exact hw8.ibl mem4 | exact hw8.iarg hv | exact hw8.iarg hv2 | assumption) (by first | exact ints_one _ _ | exact bys_one _ | simp [Value.oneCell']) (by first | (simp; done) | (simp; omega)) (by first | (simp; done) | (simp; omega)) (fun v12_3 w9 hw9 => ?_)
        try clear hw8
        refine l_move rfl rfl rfl ?_
        refine v_lit hw9 rfl rfl Try.underlying22 ti3 rfl (.cons rfl (by first | rfl | assumption) .nil) rfl rfl rfl (fun b12_5 w10 hw10 => ?_)
        try clear hw9
        refine v_push hw10 rfl rfl Try.underlying22 ti3 rfl rfl rfl rfl (by first | (simp [Value.oneCell']; done) | (intro u hu; rw [List.mem_singleton.1 hu]; assumption)) (by first | (simp; done) | (simp; omega)) (by first | (simp; done) | (simp; omega)) (fun v12_6 w11 hw11 => ?_)
        try clear hw10
        have hw12 := St.frontL (l := [_, _, _, _, _]) hw11
        simp only [List.cons_append, List.nil_append] at hw12
        try clear hw11
        have hw13 := St.frontL (l := [_, _, _, _, _]) hw12
        simp only [List.cons_append, List.nil_append] at hw13
        try clear hw12
        refine l_call rfl rfl Try.func16 rfl rfl (.cons rfl (.cons rfl .nil)) (WarmC ka (List.replicate 41 none) (List.length_replicate ..) v12_6 (l2.map eQ ++ [bad]) (fun x hx => by rcases List.mem_append.1 hx with h | h; exact eQ_rg l2 x h; rw [List.mem_singleton.1 h]; exact hbad) (by rw [List.length_append, List.length_map]; simp; omega) w11 (St.rows (τ := cacW ka (List.replicate 41 none)) hw13) (St_argR (τ := cacW ka (List.replicate 41 none)) hw13 (A := As.ro 3 v12_6 (ints .i64 (l2.map eQ) ++ [.int .i64 bad])) (.head _) (R := fun w1 => IV w1 v12_6 (ints .i64 (l2.map eQ ++ [bad]))) (fun w1 h => by rw [ints_snoc]; exact Own.iv h))) ?_
        rintro _ w14 ⟨L2, rfl, hWb, hX⟩
        have hw14 := hX _ _ _ _ hw13
        simp only [cacW, List.cons_append, List.nil_append] at hw14
        try clear hX hw13
        have hwe : warmE (l2.map eQ ++ [bad]) = 60 := by
          unfold warmE
          rw [if_neg]
          intro h
          have := h bad (by simp)
          unfold inQ at this
          omega
        have hLe : L2 = (List.replicate 41 none) := by rw [hwe, if_neg (by omega)] at hWb; exact hWb
        subst hLe
        refine l_callp rfl rfl Try.func10 rfl rfl (.cons rfl .nil) (numL7 _ _) ?_
        refine l_neq rfl rfl rfl rfl ?_
        refine l_turn (s := 57) (v' := .bool false) rfl (by rw [hwe]; rfl) ?_
        refine l_move rfl rfl rfl ?_
        refine l_move rfl rfl rfl ?_
        refine l_callp rfl rfl Try.func15 rfl rfl (.cons rfl .nil) (HeldC ka (List.replicate 41 none) (List.length_replicate ..) _ (hw14.ok mem0) (hw14.ok mem1)) ?_
        refine l_neq rfl rfl rfl rfl ?_
        refine l_turn (s := 61) (v' := .bool false) rfl (by rw [held0]; rfl) ?_
        refine l_pick_f rfl rfl rfl rfl ?_
        refine l_nil ?_
        refine e_then ?_
        refine c_keep [5, 6, 7, 62] (.cons rfl (.cons rfl (.cons rfl (.cons rfl .nil)))) ?_
        refine c_cond_f rfl rfl ?_
        refine c_skip ?_
        have hw15 := St.frontL (l := [_, _, _]) hw14
        simp only [List.cons_append, List.nil_append] at hw15
        try clear hw14
        have hw16 := St.frontL (l := [_, _]) hw15
        simp only [List.cons_append, List.nil_append] at hw16
        try clear hw15
        have hw17 := St.frontL (l := [_, _]) hw16
        simp only [List.cons_append, List.nil_append] at hw17
        try clear hw16
        have hw18 := St.frontL (l := [_, _, _, _, _]) hw17
        simp only [List.cons_append, List.nil_append] at hw18
        try clear hw17
        have hw19 := St.frontL (l := [_, _, _, _, _]) hw18
        simp only [List.cons_append, List.nil_append] at hw19
        try clear hw18
        have hw20 := St.del (.tail (.tail (.tail (.tail (.tail .head))))) hw19
        try clear hw19
        refine e_meetk (()) ?_ (.cons rfl (.cons rfl (.cons rfl .nil))) ?_
        · exact ⟨hw20, trivial⟩
        · exact .nil
      · skip
        refine c_skip ?_
        have hw21 := St.frontL (l := [_, _, _, _]) hw5
        simp only [List.cons_append, List.nil_append] at hw21
        try clear hw5
        have hw22 := St.frontL (l := [_, _, _, _]) hw21
        simp only [List.cons_append, List.nil_append] at hw22
        try clear hw21
        have hw23 := St.frontL (l := [_, _, _, _]) hw22
        simp only [List.cons_append, List.nil_append] at hw23
        try clear hw22
        have hw24 := St.frontL (l := [_, _, _, _]) hw23
        simp only [List.cons_append, List.nil_append] at hw24
        try clear hw23
        refine e_meetk (()) ?_ (.cons rfl (.cons rfl (.cons rfl .nil))) ?_
        · exact ⟨hw24, trivial⟩
        · exact .nil
    rintro z w25 ⟨hw25, _⟩
    refine c_seq ?_
    refine c_seq ?_
    refine c_region ?_
    refine l_move rfl rfl rfl ?_
    refine l_move rfl rfl rfl ?_
    have hw26 := St.frontL (l := [_, _, _, _]) hw25
    simp only [List.cons_append, List.nil_append] at hw26
    try clear hw25
    have hw27 := St.frontL (l := [_, _, _, _]) hw26
    simp only [List.cons_append, List.nil_append] at hw27
    try clear hw26
    have hw28 := St.frontL (l := [_, _, _, _]) hw27
    simp only [List.cons_append, List.nil_append] at hw28
    try clear hw27
    refine l_call rfl rfl Try.func16 rfl rfl (.cons rfl (.cons rfl .nil)) (WarmC ka (List.replicate 41 none) (List.length_replicate ..) vq (l2.map eQ) (eQ_rg l2) (by rw [List.length_map]; omega) w25 (St.rows (τ := cacW ka (List.replicate 41 none)) hw28) (St_argR (τ := cacW ka (List.replicate 41 none)) hw28 (A := As.ri 3 .i64 vq (l2.map eQ)) (.head _) (R := fun w1 => IV w1 vq (ints .i64 (l2.map eQ))) (fun w1 h => Own.iv h))) ?_
    rintro _ w29 ⟨L1, rfl, hWa, hX⟩
    have hw29 := hX _ _ _ _ hw28
    simp only [cacW, List.cons_append, List.nil_append] at hw29
    try clear hX hw28
    have hlq : (l2.map eQ).length = l2.length := List.length_map ..
    have hwe : warmE (l2.map eQ) = 0 := if_pos (eQ_all l2)
    rw [hwe, if_pos rfl] at hWa
    have hL1 : L1.length = 41 := by rw [hWa.len]; exact List.length_replicate ..
    refine l_callp rfl rfl Try.func10 rfl rfl (.cons rfl .nil) (numL7 _ _) ?_
    refine l_neq rfl rfl rfl rfl ?_
    refine l_turn (s := 67) (v' := .bool false) rfl (by rw [hwe]; rfl) ?_
    refine l_nil ?_
    refine e_then ?_
    refine c_keep [5, 6, 7, 67] (.cons rfl (.cons rfl (.cons rfl (.cons rfl .nil)))) ?_
    refine c_cond_f rfl rfl ?_
    refine c_skip ?_
    refine e_then ?_
    refine c_keep [5, 6, 7] (.cons rfl (.cons rfl (.cons rfl .nil))) ?_
    refine c_seq ?_
    refine c_seq ?_
    refine c_region ?_
    refine l_assign rfl rfl rfl ?_
    refine l_nil ?_
    refine e_then ?_
    refine c_block ?_
    refine c_loopk (ι := Nat × Cac) (fun (z0 : Nat × Cac) => match z0 with | ⟨i, L2⟩ => (l2.map eQ).length - i) (fun (z0 : Nat × Cac) (w' : World) => match z0 with | ⟨i, L2⟩ => St w w.heap.size None' ([As.blk kb 69 (cacC L2), As.many (inR L2), As.blk ka 69 (cacC L1), As.many (inR L1), As.ri 3 .i64 vq (l2.map eQ)]) w' ∧ i ≤ (l2.map eQ).length ∧ L2.length = 41 ∧ CacL (List.replicate 41 none) ((l2.map eQ).take i) L2) (fun (z0 : Nat × Cac) => match z0 with | ⟨i, L2⟩ => [(9, .int .i64 (i : Int))]) [5, 6, 7] (0, (List.replicate 41 none)) ?_ (.cons rfl (.cons rfl (.cons rfl .nil))) ?_ ?_
    · exact ⟨St.frontL (l := [_, _, _, _]) (St.frontL (l := [_, _, _, _]) hw29), by omega, (List.length_replicate ..), .nil⟩
    · exact (.cons rfl (by first | rfl | (refine congrArg (Value.int _) ?_; omega)) .nil)
    rintro ⟨i, L2⟩ w30 ⟨hw30, hi, hL2, hCL⟩
    show RunC P _ _ _ (_ :: _) _
    refine c_seq ?_
    refine c_seq ?_
    refine c_region ?_
    refine l_move rfl rfl rfl ?_
    refine l_move rfl rfl rfl ?_
    refine v_leni rfl rfl Try.underlying22 rfl (by first | exact hw30.ibl mem0 | exact hw30.ibl mem2 | exact hw30.io mem4 | exact hw30.iarg hv | exact hw30.iarg hv2 | assumption) ?_
    refine l_lss rfl rfl rfl rfl ?_
    refine l_nil ?_
    refine e_then ?_
    refine c_keep [5, 6, 7, 9, 71] (.cons rfl (.cons rfl (.cons rfl (.cons rfl (.cons rfl .nil))))) ?_
    first | refine c_cond rfl (fun hc6 => ?_) (fun hc6 => ?_) | refine c_condb rfl (fun hc6 => ?_) (fun hc6 => ?_)
    · skip
      refine c_skip ?_
      refine e_then ?_
      refine c_keep [5, 6, 7, 9] (.cons rfl (.cons rfl (.cons rfl (.cons rfl .nil)))) ?_
      refine c_seq ?_
      refine c_block ?_
      refine c_region ?_
      have hi2 : i < (l2.map eQ).length := by omega
      have hrq := eQ_rg l2
      have hbq := hrq ((l2.map eQ).getD i 0) (by rw [List.getD_eq_getElem?_getD, List.getElem?_eq_getElem hi2]; exact List.getElem_mem hi2)
      refine l_move rfl rfl rfl ?_
      refine l_move rfl rfl rfl ?_
      refine l_move rfl rfl rfl ?_
      refine v_getr (j := i) rfl rfl rfl rfl Try.underlying22 tz3 Try.underlying3 rfl rfl (by first | exact hw30.ibl mem0 | exact hw30.ibl mem2 | exact hw30.io mem4 | exact hw30.iarg hv | exact hw30.iarg hv2 | assumption) (by assumption) rfl (by omega) (by first | omega | (simp; done) | (simp; omega)) (fun hb19_3 => ?_)
      have hw31 := St.frontL (l := [_]) hw30
      simp only [List.cons_append, List.nil_append] at hw31
      try clear hw30
      have hw32 := St.frontL (l := [_]) hw31
      simp only [List.cons_append, List.nil_append] at hw32
      try clear hw31
      refine l_call rfl rfl Try.func9 rfl rfl (.cons rfl (.cons rfl .nil)) (EntryC kb L2 hL2 ((l2.map eQ).getD i 0) (by omega) w30 (St.rows (τ := cacW kb L2) hw32)) ?_
      rintro _ w33 ⟨L3, rfl, hQ, hX⟩
      have hw33 := hX _ _ _ _ hw32
      simp only [cacW, List.cons_append, List.nil_append] at hw33
      try clear hX hw32
      refine l_nil ?_
      refine e_blk ?_
      refine e_then ?_
      refine c_keep [5, 6, 7, 9] (.cons rfl (.cons rfl (.cons rfl (.cons rfl .nil)))) ?_
      refine c_region ?_
      refine l_move rfl rfl rfl ?_
      refine l_add rfl rfl rfl rfl (w_i64 (by omega)) ?_
      refine l_assign rfl rfl rfl ?_
      refine l_nil ?_
      refine e_againk (i := (i, L2)) (i + 1, L3) ?_ ?_ (.cons rfl (.cons rfl (.cons rfl .nil))) ?_
      · first | omega | (simp; omega)
      · exact ⟨hw33, by omega, by rw [hQ.len]; exact hL2, by rw [take_snoc' hi2]; exact .snoc hCL hQ⟩
      · exact (.cons rfl (by first | rfl | (refine congrArg (Value.int _) ?_; omega)) .nil)
    · skip
      refine c_exit ?_
      refine e_then_exit ?_
      refine e_then_exit ?_
      refine e_blk_exit ?_
      refine e_then ?_
      refine c_keep [5, 6] (.cons rfl (.cons rfl .nil)) ?_
      refine c_seq ?_
      refine c_seq ?_
      refine c_region ?_
      obtain rfl : i = (l2.map eQ).length := by omega
      rw [List.take_length] at hCL
      have hpe : ∀ t, hasP L1 t = hasP L2 t := fun t => by rw [hWa.has, hCL.has]
      have hHe : heldN L1 41 = heldN L2 41 := heldN_eq 41 (f := hasP L2) (fun t _ => hpe t) |>.trans (heldN_eq 41 (f := hasP L2) (fun t _ => rfl)).symm
      refine l_assign rfl rfl rfl ?_
      refine l_nil ?_
      refine e_then ?_
      refine c_block ?_
      refine c_loopk (ι := Nat) (fun (s : Nat) => 41 - s) (fun (s : Nat) (w' : World) => St w w.heap.size None' ([As.blk kb 69 (cacC L2), As.many (inR L2), As.blk ka 69 (cacC L1), As.many (inR L1), As.ri 3 .i64 vq (l2.map eQ)]) w' ∧ s ≤ 41) (fun (s : Nat) => [(10, .int .i64 (s : Int))]) [5, 6] (0) ?_ (.cons rfl (.cons rfl .nil)) ?_ ?_
      · exact ⟨hw30, by omega⟩
      · exact (.cons rfl (by first | rfl | (refine congrArg (Value.int _) ?_; omega)) .nil)
      rintro s w34 ⟨hw34, hs⟩
      show RunC P _ _ _ (_ :: _) _
      refine c_seq ?_
      refine c_seq ?_
      refine c_region ?_
      refine l_move rfl rfl rfl ?_
      refine l_lss rfl rfl rfl rfl ?_
      refine l_nil ?_
      refine e_then ?_
      refine c_keep [5, 6, 10, 81] (.cons rfl (.cons rfl (.cons rfl (.cons rfl .nil)))) ?_
      first | refine c_cond rfl (fun hc7 => ?_) (fun hc7 => ?_) | refine c_condb rfl (fun hc7 => ?_) (fun hc7 => ?_)
      · skip
        refine c_skip ?_
        refine e_then ?_
        refine c_keep [5, 6, 10] (.cons rfl (.cons rfl (.cons rfl .nil))) ?_
        refine c_seq ?_
        refine c_block ?_
        refine c_seq ?_
        refine c_region ?_
        refine l_move rfl rfl rfl ?_
        refine l_move rfl rfl rfl ?_
        refine l_callp rfl rfl Try.func12 rfl rfl (.cons rfl (.cons rfl .nil)) (BuiltC ka L1 hL1 (s : Int) _ (hw34.ok mem2) (hw34.ok mem3)) ?_
        refine l_move rfl rfl rfl ?_
        refine l_move rfl rfl rfl ?_
        refine l_callp rfl rfl Try.func12 rfl rfl (.cons rfl (.cons rfl .nil)) (BuiltC kb L2 hL2 (s : Int) _ (hw34.ok mem0) (hw34.ok mem1)) ?_
        refine l_neq rfl rfl rfl rfl ?_
        refine l_turn (s := 90) (v' := .bool false) rfl (by rw [hpe]; simp) ?_
        refine l_move rfl rfl rfl ?_
        refine l_move rfl rfl rfl ?_
        refine l_move rfl rfl rfl ?_
        refine l_callp rfl rfl Try.func13 rfl rfl (.cons rfl (.cons rfl .nil)) (CompleteC ka L1 hL1 (s : Int) _ (hw34.ok mem2) (hw34.ok mem3)) ?_
        refine l_move rfl rfl rfl ?_
        refine l_move rfl rfl rfl ?_
        refine l_callp rfl rfl Try.func13 rfl rfl (.cons rfl (.cons rfl .nil)) (CompleteC kb L2 hL2 (s : Int) _ (hw34.ok mem0) (hw34.ok mem1)) ?_
        refine l_neqb Try.underlying4 rfl rfl rfl rfl ?_
        refine l_turn (s := 98) (v' := .bool false) rfl (by rw [hpe]; simp) ?_
        refine l_pick_f rfl rfl rfl rfl ?_
        refine l_nil ?_
        refine e_then ?_
        refine c_keep [5, 6, 10, 99] (.cons rfl (.cons rfl (.cons rfl (.cons rfl .nil)))) ?_
        refine c_cond_f rfl rfl ?_
        refine c_skip ?_
        refine e_blk ?_
        refine e_then ?_
        refine c_keep [5, 6, 10] (.cons rfl (.cons rfl (.cons rfl .nil))) ?_
        refine c_region ?_
        refine l_move rfl rfl rfl ?_
        refine l_add rfl rfl rfl rfl (w_i64 (by omega)) ?_
        refine l_assign rfl rfl rfl ?_
        refine l_nil ?_
        refine e_againk (i := (s)) (s + 1) ?_ ?_ (.cons rfl (.cons rfl .nil)) ?_
        · first | omega | (simp; omega)
        · exact ⟨hw34, by omega⟩
        · exact (.cons rfl (by first | rfl | (refine congrArg (Value.int _) ?_; omega)) .nil)
      · skip
        refine c_exit ?_
        refine e_then_exit ?_
        refine e_then_exit ?_
        refine e_blk_exit ?_
        refine e_then ?_
        refine c_keep [5, 6] (.cons rfl (.cons rfl .nil)) ?_
        refine c_seq ?_
        refine c_region ?_
        refine l_move rfl rfl rfl ?_
        refine l_callp rfl rfl Try.func15 rfl rfl (.cons rfl .nil) (HeldC ka L1 hL1 _ (hw34.ok mem2) (hw34.ok mem3)) ?_
        refine l_move rfl rfl rfl ?_
        refine l_callp rfl rfl Try.func15 rfl rfl (.cons rfl .nil) (HeldC kb L2 hL2 _ (hw34.ok mem0) (hw34.ok mem1)) ?_
        refine l_eql rfl rfl rfl rfl ?_
        refine l_turn (s := 104) (v' := .bool true) rfl (by rw [decide_eq_true hHe]) ?_
        refine l_assign rfl rfl rfl ?_
        refine l_nil ?_
        refine e_then ?_
        refine c_keep [4] (.cons rfl .nil) ?_
        refine c_ret ?_
        refine e_done1 Try.results5 rfl ?_
        refine ⟨_, rfl, ?_⟩
        have hw35 := St.del (.tail (.tail (.tail (.tail .head)))) hw34
        try clear hw34
        have hw36 := St.del (.tail (.tail (.tail .head))) hw35
        try clear hw35
        have hw37 := St.del (.tail (.tail .head)) hw36
        try clear hw36
        have hw38 := St.del (.tail .head) hw37
        try clear hw37
        have hw39 := St.del .head hw38
        try clear hw38
        exact ⟨rfl, hw39.grows⟩
end Go.Proofs.Ytggdkplphfofkaa.W
