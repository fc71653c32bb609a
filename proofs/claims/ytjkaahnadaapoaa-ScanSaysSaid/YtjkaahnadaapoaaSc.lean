/- walks of scan.all, read, Scan -/
import Derived.Test.YtjkaahnadaapoaaSb
set_option linter.unusedVariables false
set_option linter.unusedSimpArgs false
set_option maxRecDepth 10000
namespace Go.Proofs.Ytjkaahnadaapoaa.W
open Go.Vc Go.RowKit

/-- without noughts ahead -/
def skip0 : L8 → L8
  | [] => []
  | c :: l => if c = 48 then skip0 l else c :: l
theorem skip0_drop : ∀ (l : L8) (z : Nat), z ≤ l.length → (∀ j, j < z → l.getD j 0 = 48) → (z < l.length → ¬ l.getD z 0 = 48) → skip0 l = l.drop z
  | [], z, h1, h2, h3 => by simp at h1; subst h1; rfl
  | c :: l, 0, h1, h2, h3 => by
    have := h3 (by simp)
    simp only [skip0]
    rw [if_neg (by simpa using this)]
    rfl
  | c :: l, z + 1, h1, h2, h3 => by
    have h0 := h2 0 (by omega)
    simp only [skip0]
    rw [if_pos (by simpa using h0), skip0_drop l z (by simpa using h1) (fun j hj => by simpa using h2 (j + 1) (by omega)) (fun h => by simpa using h3 (by simpa using h))]
    rfl
theorem skip0_le (l : L8) : (skip0 l).length ≤ l.length := by
  induction l with
  | nil => simp [skip0]
  | cons c l ih => simp only [skip0]; split <;> simp <;> omega
theorem skip0_mem {l : L8} {x : UInt8} : x ∈ skip0 l → x ∈ l := by
  induction l with
  | nil => exact fun h => h
  | cons c l ih =>
    simp only [skip0]
    split
    · exact fun h => .tail _ (ih h)
    · exact fun h => h
/-- what reading a text's pieces tells -/
inductive ReadR (t : L8) : Bool → Int → L8 → L8 → Int → Int → Int → Prop
  | long (h : 1024 < t.length) : ReadR t false 0 [] [] 0 0 80
  | form {ng : Bool} {wd x a : Int} {W F : L8} (h : t.length ≤ 1024) (hc : CutR t ng wd W F x a false) : ReadR t false 0 [] [] 0 a 81
  | ok {ng : Bool} {wd x a : Int} {W F : L8} (h : t.length ≤ 1024) (hc : CutR t ng wd W F x a true) : ReadR t ng wd W F x 0 0
theorem Fr.digs {t : L8} {a b : Nat} {F : L8} (h : Fr t a F b) : ∀ x ∈ F, isD x := by
  cases h with
  | no _ => intro x hx; cases hx
  | yes _ _ =>
    intro x hx
    rw [List.drop_take] at hx
    obtain ⟨j, hj, rfl⟩ := List.getElem_of_mem hx
    rw [List.length_take, List.length_drop] at hj
    have := run_all (t.drop (a + 1)) j (by omega)
    simpa [List.getD, List.getElem?_drop, show a + 1 + j < t.length by omega] using this
theorem whole_digs {t : L8} {a1 : Nat} (e : a1 = sg t 0 + run (t.drop (sg t 0))) : ∀ x ∈ (t.take a1).drop (sg t 0), isD x := by
  intro x hx
  rw [List.drop_take] at hx
  obtain ⟨j, hj, rfl⟩ := List.getElem_of_mem hx
  rw [List.length_take, List.length_drop] at hj
  have := run_all (t.drop (sg t 0)) j (by omega)
  simpa [List.getD, List.getElem?_drop, show sg t 0 + j < t.length by omega] using this
theorem expo_bd : ∀ (n : Nat) (ds : L8), ds.length = n → (∀ x ∈ ds, isD x) → 0 ≤ expo ds ∧ expo ds ≤ 99999
  | 0, b, h, _ => by
    obtain rfl := List.eq_nil_of_length_eq_zero h
    simp [expo]
  | n + 1, b, h, hd => by
    have hne : b ≠ [] := by intro e; subst e; simp at h
    have e := List.dropLast_concat_getLast hne
    have ih := expo_bd n b.dropLast (by simp [h]) (fun x hx => hd x ((List.dropLast_sublist b).subset hx))
    have hl := hd _ (List.getLast_mem hne)
    unfold isD at hl
    rw [← e, expo_snoc]
    omega
theorem CutR.facts {t : L8} {ng ok : Bool} {wd x a : Int} {W F : L8} (h : CutR t ng wd W F x a ok) : (∀ c ∈ W ++ F, isD c) ∧ W.length ≤ t.length ∧ F.length ≤ t.length ∧ -99999 ≤ x ∧ x ≤ 99999 ∧ 0 ≤ wd ∧ wd ≤ 2 := by
  have hW : ∀ a1 : Nat, ((t.take a1).drop (sg t 0)).length ≤ t.length := fun a1 => by rw [List.length_drop, List.length_take]; omega
  have hF : ∀ {a b : Nat} {F : L8}, Fr t a F b → F.length ≤ t.length := fun hf => by
    cases hf with
    | no _ => simp
    | yes _ _ => rw [List.length_drop, List.length_take]; omega
  cases h with
  | inf _ => simp
  | nan _ _ => simp
  | none h0 h1 e1 hf hz => exact ⟨fun c hc => (List.mem_append.1 hc).elim (whole_digs e1 c) (hf.digs c), hW _, hF hf, by omega, by omega, by omega, by omega⟩
  | plain h0 h1 e1 hf hz => exact ⟨fun c hc => (List.mem_append.1 hc).elim (whole_digs e1 c) (hf.digs c), hW _, hF hf, by omega, by omega, by omega, by omega⟩
  | bad h0 h1 e1 hf hz => exact ⟨fun c hc => (List.mem_append.1 hc).elim (whole_digs e1 c) (hf.digs c), hW _, hF hf, by omega, by omega, by omega, by omega⟩
  | @exp F a1 a a4 j x h0 h1 e1 hf hz ha he e4 hj hr hx =>
    have hb := expo_bd _ ((t.drop a4).take j) rfl fun y hy => by
      obtain ⟨i, hi, rfl⟩ := List.getElem_of_mem hy
      rw [List.length_take, List.length_drop] at hi
      have := run_all (t.drop a4) i (by omega)
      simpa [List.getD, List.getElem?_drop, show a4 + i < t.length by omega] using this
    refine ⟨fun c hc => (List.mem_append.1 hc).elim (whole_digs e1 c) (hf.digs c), hW _, hF hf, ?_, ?_, by omega, by omega⟩ <;> rw [hx] <;> split <;> omega
theorem ReadR.facts {t : L8} {ng : Bool} {wd x p e : Int} {W F : L8} (h : ReadR t ng wd W F x p e) : (∀ c ∈ W ++ F, isD c) ∧ W.length ≤ t.length ∧ F.length ≤ t.length ∧ -99999 ≤ x ∧ x ≤ 99999 ∧ 0 ≤ wd ∧ wd ≤ 2 := by
  cases h with
  | long _ => simp
  | form _ _ => simp
  | ok _ hc => exact hc.facts
/-- the number of a text, cut to 19 digits -/
inductive ScanR (t : L8) : Bool → Int → Int → Int → Bool → Int → Int → Prop
  | err {ng : Bool} {wd x p e : Int} {W F : L8} (hr : ReadR t ng wd W F x p e) (he : ¬ e = 0) : ScanR t false 0 0 0 false p e
  | nil {ng : Bool} {wd x p : Int} {W F : L8} (hr : ReadR t ng wd W F x p 0) (hn : ¬ wd = 0 ∨ skip0 (W ++ F) = []) : ScanR t (decide (ng = true ∧ ¬ wd = 2)) wd 0 0 false 0 0
  | num {ng : Bool} {x p : Int} {W F : L8} {n : Nat} (hr : ReadR t ng 0 W F x p 0) (hne : ¬ skip0 (W ++ F) = []) (hn : n = (skip0 (W ++ F)).length - 19) :
      ScanR t ng 0 (pv ((skip0 (W ++ F)).take ((skip0 (W ++ F)).length - n))) (x - F.length + n) (((skip0 (W ++ F)).drop ((skip0 (W ++ F)).length - n)).any (fun c => !decide (c = 48))) 0 0
theorem any_snoc (l : L8) (k : Nat) (h : k < l.length) : ((l.take (k + 1)).any fun c => !decide (c = 48)) = ((l.take k).any (fun c => !decide (c = 48)) || !decide (l.getD k 0 = 48)) := by
  have e : l.getD k 0 = l[k] := by simp [List.getD, h]
  rw [List.take_succ_eq_append_getElem h, List.any_append, e]
  simp only [List.any_cons, List.any_nil, Bool.or_false]

theorem allS (ng : Bool) (wd x : Int) (vw vf : Value) (W F : L8) (hLW : W.length ≤ 1099511627776) (hLF : F.length ≤ 1099511627776) (w : World) (hvw : IV w vw (bys W)) (hvf : IV w vf (bys F)) :
    CallsV P 27 [.agg #[.bool ng, .int .i64 wd, vw, vf, .int .i64 x]] w fun r w' => ∃ v, r = v ∧ Grow w w' [As.iv v (bys (skip0 (W ++ F)))] := by
  refine enterW Try.func27 rfl Try.ntmps27 rfl ?_
  have hw0 := St.start w
  have hone1 := slice_one hvw
  have hone2 := slice_one hvf
  have happ : bys W ++ bys F = bys (W ++ F) := by simp [bys]
  refine c_seq ?_
  refine c_region ?_
  refine l_box hw0 rfl rfl rfl (fun b0_0 w1 hw1 => ?_)
  try clear hw0
  refine l_assign rfl rfl rfl ?_
  refine l_nil ?_
  refine e_then ?_
  refine c_keep [1] (.cons rfl .nil) ?_
  refine c_seq ?_
  have hw2 := hw1.drewn
  try clear hw1
  refine c_any (n := 7) [false, false, false, false, false, false, false] (fun wS => (As.blk b0_0 62 [.bool ng, .int .i64 wd, vw, vf, .int .i64 x]).ok wS) (by kernel_rfl) rfl rfl ?_
  apply a_take (L' := [true, false, false, false, false, false, false]) 0 rfl (by kernel_rfl) (by kernel_rfl) (by kernel_rfl) rfl rfl rfl rfl rfl (hw2.ok mem0)
  · intro wS sS
    refine l_field fo62_2 rfl rfl rfl ?_
    refine l_nil ?_
    exact e_got rfl
  apply a_take (L' := [true, true, false, false, false, false, false]) 1 rfl (by kernel_rfl) (by kernel_rfl) (by kernel_rfl) rfl rfl rfl rfl rfl (hw2.ok mem0)
  · intro wS sS
    refine l_load_blk (blk_st sS) mem0 rfl rfl Try.underlying22 rfl rfl rfl ?_
    refine l_nil ?_
    exact e_got rfl
  apply a_take (L' := [true, true, false, true, false, false, false]) 3 rfl (by kernel_rfl) (by kernel_rfl) (by kernel_rfl) rfl rfl rfl rfl rfl (hw2.ok mem0)
  · intro wS sS
    refine l_field fo62_3 rfl rfl rfl ?_
    refine l_nil ?_
    exact e_got rfl
  apply a_take (L' := [true, true, false, true, true, false, false]) 4 rfl (by kernel_rfl) (by kernel_rfl) (by kernel_rfl) rfl rfl rfl rfl rfl (hw2.ok mem0)
  · intro wS sS
    refine l_load_blk (blk_st sS) mem0 rfl rfl Try.underlying22 rfl rfl rfl ?_
    refine l_nil ?_
    exact e_got rfl
  refine a_one (L' := [true, true, true, true, true, false, false]) 2 (by kernel_rfl) rfl rfl ?_
  refine v_append_nil hw2 rfl rfl Try.underlying22 ti5 rfl rfl rfl (by first | exact hw2.ibl mem0 | exact hw2.iarg hvw | exact hw2.iarg hvf | assumption) (by first | exact ints_one _ _ | exact bys_one _ | simp [Value.oneCell']) (by first | (simp; done) | (simp; omega)) (by first | (simp; done) | (simp; omega)) (fun v1_2 w3 hw3 => ?_)
  try clear hw2
  refine l_nil ?_
  refine e_any (hw3.ok mem1) ?_
  refine a_one (L' := [true, true, true, true, true, true, false]) 5 (by kernel_rfl) rfl rfl ?_
  refine v_append0 hw3 rfl rfl Try.underlying22 ti5 rfl rfl rfl (by first | exact hw3.io mem0 | exact hw3.ibl mem1 | exact hw3.iarg hvw | exact hw3.iarg hvf | assumption) (by first | exact ints_one _ _ | exact bys_one _ | simp [Value.oneCell']) (by first | (simp; done) | (simp; omega)) (by first | (simp; done) | (simp; omega)) (fun v1_5 w4 hw4 => ?_)
  try clear hw3
  rw [happ] at hw4
  refine l_nil ?_
  refine e_any (hw4.ok mem1) ?_
  apply a_take (L' := [true, true, true, true, true, true, true]) 6 rfl (by kernel_rfl) (by kernel_rfl) (by kernel_rfl) rfl rfl rfl rfl rfl (hw4.ok mem1)
  · intro wS sS
    refine l_assign rfl rfl rfl ?_
    refine l_nil ?_
    exact e_got rfl
  refine a_done (by kernel_rfl) ?_
  refine e_then ?_
  refine c_keep [3] (.cons rfl .nil) ?_
  refine c_seq ?_
  refine c_block ?_
  refine c_loopk (ι := Value × Nat) (fun (z0 : Value × Nat) => match z0 with | ⟨vl, z⟩ => (W ++ F).length - z) (fun (z0 : Value × Nat) (w' : World) => match z0 with | ⟨vl, z⟩ => St w w.heap.size None' ([As.iv vl (bys ((W ++ F).drop z)), As.blk b0_0 62 [.bool ng, .int .i64 wd, vw, vf, .int .i64 x]]) w' ∧ z ≤ (W ++ F).length ∧ ∀ j, j < z → (W ++ F).getD j 0 = 48) (fun (z0 : Value × Nat) => match z0 with | ⟨vl, z⟩ => [(3, vl)]) [] (v1_5, 0) ?_ .nil ?_ ?_
  · exact ⟨St.ro_iv hw4, by omega, fun j hj => by omega⟩
  · exact (.cons rfl (by first | rfl | (refine congrArg (Value.int _) ?_; omega)) .nil)
  rintro ⟨vl, z⟩ w5 ⟨hw5, hz, hzs⟩
  show RunC P _ _ _ (_ :: _) _
  have hlz : ((W ++ F).drop z).length = (W ++ F).length - z := List.length_drop
  have hlW : (W ++ F).length = W.length + F.length := by simp
  refine c_seq ?_
  refine c_seq ?_
  refine c_region ?_
  refine l_move rfl rfl rfl ?_
  refine v_lenb rfl rfl Try.underlying22 rfl (by first | exact hw5.ii mem0 | exact hw5.ibl mem1 | exact hw5.iarg hvw | exact hw5.iarg hvf | assumption) ?_
  refine l_gtr rfl rfl rfl rfl ?_
  refine l_move rfl rfl rfl ?_
  apply l_and 4 [3] rfl rfl (.cons rfl (.cons rfl .nil)) rfl rfl (fun _ => rfl) rfl rfl rfl
  · intro hg2_4
    refine l_move rfl rfl rfl ?_
    refine v_getbr (j := 0) rfl rfl rfl rfl Try.underlying22 tz5 Try.underlying5 rfl rfl (by first | exact hw5.ii mem0 | exact hw5.ibl mem1 | exact hw5.iarg hvw | exact hw5.iarg hvf | assumption) rfl (by omega) (by omega) (fun hb2_5 => ?_)
    refine l_eql rfl rfl rfl rfl ?_
    refine l_nil ?_
    exact e_stays rfl (.cons rfl (congrArg Value.bool (decide_eq_true hg2_4).symm) (.cons rfl rfl .nil))
  refine l_nil ?_
  refine e_then ?_
  refine c_keep [3, 18] (.cons rfl (.cons rfl .nil)) ?_
  first | refine c_cond rfl (fun hc0 => ?_) (fun hc0 => ?_) | refine c_condb rfl (fun hc0 => ?_) (fun hc0 => ?_)
  · skip
    refine c_skip ?_
    refine e_then ?_
    refine c_keep [3] (.cons rfl .nil) ?_
    refine c_block ?_
    refine c_region ?_
    refine l_move rfl rfl rfl ?_
    refine v_cut (l := 1) (h := ((W ++ F).drop z).length) rfl rfl Try.underlying22 tz5 rfl rfl rfl rfl (by first | exact hw5.ii mem0 | exact hw5.ibl mem1 | exact hw5.iarg hvw | exact hw5.iarg hvf | assumption) (by first | rfl | (simp; done) | (simp; omega)) (by first | rfl | (simp; done) | (simp; omega)) (.inl rfl) (by simp) (by omega) (by first | omega | (simp; omega) | (simp; done)) (fun v3_1 h3_1 ho3_1 => ?_)
    rw [bys_cut, List.take_length, List.drop_drop] at h3_1
    have hw6 := St.iv_cut hw5 h3_1 ho3_1
    try clear hw5
    refine l_assign rfl rfl rfl ?_
    refine l_nil ?_
    refine e_blk ?_
    refine e_againk (i := (vl, z)) (v3_1, z + 1) ?_ ?_ .nil ?_
    · first | omega | (simp; omega)
    · refine ⟨hw6, by omega, fun j hj => ?_⟩
      rcases Nat.lt_or_ge j z with h | h
      · exact hzs j h
      · obtain rfl : j = z := by omega
        have := hc0.2
        rw [getD_drop] at this
        exact u8_eq.1 this
    · exact (.cons rfl (by first | rfl | (refine congrArg (Value.int _) ?_; omega)) .nil)
  · skip
    refine c_exit ?_
    refine e_then_exit ?_
    refine e_then_exit ?_
    refine e_blk_exit ?_
    refine e_then ?_
    refine c_keep [3] (.cons rfl .nil) ?_
    refine c_seq ?_
    refine c_region ?_
    refine l_move rfl rfl rfl ?_
    refine l_assign rfl rfl rfl ?_
    refine l_nil ?_
    refine e_then ?_
    refine c_keep [2] (.cons rfl .nil) ?_
    refine c_ret ?_
    refine e_done1 Try.results27 rfl ?_
    refine ⟨_, rfl, ?_⟩
    have hw7 := St.del (.tail .head) hw5
    try clear hw5
    have hsk : skip0 (W ++ F) = (W ++ F).drop z := skip0_drop _ z hz hzs (fun h h2 => hc0 ⟨by omega, by rw [getD_drop]; exact u8_eq.2 h2⟩)
    exact ⟨_, rfl, by rw [hsk]; exact hw7.grows⟩
theorem readS (v : Value) (t : L8) (hL : t.length ≤ 1099511627776) (w : World) (wr : World) (hv : IB w v t) (hvr : IB wr v t) :
    CallsV P 26 [v] w fun r w' => ∃ ng wd vw vf W F x p e, r = .tuple #[.agg #[.bool ng, .int .i64 wd, vw, vf, .int .i64 x], .int .i64 p, .int .i64 e] ∧ ReadR t ng wd W F x p e ∧ IV wr vw (bys W) ∧ IV wr vf (bys F) ∧ Grow w w' [] := by
  refine enterW Try.func26 rfl Try.ntmps26 rfl ?_
  have hw0 := St.start w
  have hnil := IV.nil wr
  refine c_seq ?_
  refine c_region ?_
  refine l_alloc hw0 ta62 rfl rfl (fun b0_0 w1 hw1 => ?_)
  try clear hw0
  refine l_assign rfl rfl rfl ?_
  refine l_assign rfl rfl rfl ?_
  refine l_nil ?_
  refine e_then ?_
  refine c_keep [0, 2] (.cons rfl (.cons rfl .nil)) ?_
  refine c_seq ?_
  refine c_seq ?_
  refine c_region ?_
  refine l_move rfl rfl rfl ?_
  refine v_lenb rfl rfl Try.underlying22 rfl (by first | exact hw1.ibl mem0 | exact hw1.iarg hv | assumption) ?_
  refine l_gtr rfl rfl rfl rfl ?_
  refine l_nil ?_
  refine e_then ?_
  refine c_keep [0, 2, 8] (.cons rfl (.cons rfl (.cons rfl .nil))) ?_
  first | refine c_cond rfl (fun hc0 => ?_) (fun hc0 => ?_) | refine c_condb rfl (fun hc0 => ?_) (fun hc0 => ?_)
  · skip
    refine c_seq ?_
    refine c_region ?_
    refine l_buildS rfl rfl pl62 ta62 .nil ?_
    refine l_store_blks hw1 .head (.zero (.zero (.zero (.zero (.zero .nil))))) rfl tz62 rfl rfl (by first | (simp [Value.oneCell']; done) | (intro u hu; simp only [List.mem_cons, List.not_mem_nil, or_false] at hu; rcases hu with rfl | rfl | rfl | rfl | rfl <;> first | rfl | assumption)) (fun w2 hw2 => ?_)
    try clear hw1
    refine l_assign rfl rfl rfl ?_
    refine l_assign rfl rfl rfl ?_
    refine l_nil ?_
    refine e_then ?_
    refine c_keep [2, 3, 4] (.cons rfl (.cons rfl (.cons rfl .nil))) ?_
    refine c_ret ?_
    refine e_then_ret ?_
    refine e_doneN Try.results26 (.cell rfl (load_agg_run hw2 mem0 Try.underlying62 rfl tz62 (.take (.take (.take (.take (.take .nil)))))) (.tmp rfl (.tmp rfl .nil))) rfl ?_
    refine ⟨_, rfl, ?_⟩
    have hw3 := St.del .head hw2
    try clear hw2
    exact ⟨_, _, _, _, _, _, _, _, _, rfl, .long (by omega), hnil, hnil, hw3.grows⟩
  · skip
    refine c_skip ?_
    refine e_then ?_
    refine c_keep [0, 2] (.cons rfl (.cons rfl .nil)) ?_
    refine c_seq ?_
    refine c_region ?_
    refine l_move rfl rfl rfl ?_
    refine l_call rfl rfl Try.func44 rfl rfl (.cons rfl .nil) (cutS v t hL w1 wr (hw1.iarg hv) hvr) ?_
    rintro _ w4 ⟨ng, wd, vw, vf, W, F, x, at', ok, rfl, hR, hvw, hvf, hG⟩
    have hw4 := hG _ _ _ _ hw1
    try clear hG hw1
    simp only [List.cons_append, List.nil_append] at hw4
    have hone1 := slice_one hvw
    have hone2 := slice_one hvf
    skip
    refine l_move rfl rfl rfl ?_
    refine l_extract rfl rfl rfl rfl ?_
    refine l_extract rfl rfl rfl rfl ?_
    refine l_extract rfl rfl rfl rfl ?_
    refine l_store_blks hw4 .head (.zero (.zero (.zero (.zero (.zero .nil))))) rfl tz62 rfl rfl (by first | (simp [Value.oneCell']; done) | (intro u hu; simp only [List.mem_cons, List.not_mem_nil, or_false] at hu; rcases hu with rfl | rfl | rfl | rfl | rfl <;> first | rfl | assumption)) (fun w5 hw5 => ?_)
    try clear hw4
    refine l_assign rfl rfl rfl ?_
    refine l_assign rfl rfl rfl ?_
    refine l_nil ?_
    refine e_then ?_
    refine c_keep [2, 3, 5] (.cons rfl (.cons rfl (.cons rfl .nil))) ?_
    refine c_seq ?_
    refine c_seq ?_
    refine c_region ?_
    refine l_move rfl rfl rfl ?_
    first | refine l_notd rfl rfl rfl ?_ | refine l_not rfl rfl rfl ?_
    refine l_nil ?_
    refine e_then ?_
    refine c_keep [2, 3, 17] (.cons rfl (.cons rfl (.cons rfl .nil))) ?_
    first | refine c_cond rfl (fun hc1 => ?_) (fun hc1 => ?_) | refine c_condb rfl (fun hc1 => ?_) (fun hc1 => ?_)
    · skip
      refine c_seq ?_
      refine c_region ?_
      refine l_buildS rfl rfl pl62 ta62 .nil ?_
      refine l_move rfl rfl rfl ?_
      refine l_store_blks hw5 .head (.zero (.zero (.zero (.zero (.zero .nil))))) rfl tz62 rfl rfl (by first | (simp [Value.oneCell']; done) | (intro u hu; simp only [List.mem_cons, List.not_mem_nil, or_false] at hu; rcases hu with rfl | rfl | rfl | rfl | rfl <;> first | rfl | assumption)) (fun w6 hw6 => ?_)
      try clear hw5
      refine l_assign rfl rfl rfl ?_
      refine l_assign rfl rfl rfl ?_
      refine l_nil ?_
      refine e_then ?_
      refine c_keep [2, 3, 4] (.cons rfl (.cons rfl (.cons rfl .nil))) ?_
      refine c_ret ?_
      refine e_then_ret ?_
      refine e_doneN Try.results26 (.cell rfl (load_agg_run hw6 mem0 Try.underlying62 rfl tz62 (.take (.take (.take (.take (.take .nil)))))) (.tmp rfl (.tmp rfl .nil))) rfl ?_
      refine ⟨_, rfl, ?_⟩
      have hw7 := St.del .head hw6
      try clear hw6
      have hok : ok = false := by simpa using hc1
      subst hok
      exact ⟨_, _, _, _, _, _, _, _, _, rfl, .form (by omega) hR, hnil, hnil, hw7.grows⟩
    · skip
      refine c_skip ?_
      refine e_then ?_
      refine c_keep [2] (.cons rfl .nil) ?_
      refine c_seq ?_
      refine c_region ?_
      refine l_load_agg hw5 mem0 rfl rfl Try.underlying62 rfl tz62 rfl (.take (.take (.take (.take (.take .nil))))) ?_
      refine l_store_blks hw5 .head (.zero (.zero (.zero (.zero (.zero .nil))))) rfl tz62 rfl rfl (by first | (simp [Value.oneCell']; done) | (intro u hu; simp only [List.mem_cons, List.not_mem_nil, or_false] at hu; rcases hu with rfl | rfl | rfl | rfl | rfl <;> first | rfl | assumption)) (fun w8 hw8 => ?_)
      try clear hw5
      refine l_assign rfl rfl rfl ?_
      refine l_assign rfl rfl rfl ?_
      refine l_nil ?_
      refine e_then ?_
      refine c_keep [2, 3, 4] (.cons rfl (.cons rfl (.cons rfl .nil))) ?_
      refine c_ret ?_
      refine e_doneN Try.results26 (.cell rfl (load_agg_run hw8 mem0 Try.underlying62 rfl tz62 (.take (.take (.take (.take (.take .nil)))))) (.tmp rfl (.tmp rfl .nil))) rfl ?_
      refine ⟨_, rfl, ?_⟩
      have hw9 := St.del .head hw8
      try clear hw8
      have hok : ok = true := by simpa using hc1
      subst hok
      exact ⟨_, _, _, _, _, _, _, _, _, rfl, .ok (by omega) hR, hvw, hvf, hw9.grows⟩
theorem scanS (v : Value) (t : L8) (hL : t.length ≤ 1099511627776) (w : World) (hv : IB w v t) :
    CallsV P 11 [v] w fun r w' => ∃ ng wd man x more p e, r = .tuple #[.agg #[.bool ng, .int .i64 wd, .int .u64 man, .int .i64 x, .bool more], .int .i64 p, .int .i64 e] ∧ ScanR t ng wd man x more p e ∧ Grow w w' [] := by
  refine enterW Try.func11 rfl Try.ntmps11 rfl ?_
  have hw0 := St.start w
  refine c_seq ?_
  refine c_region ?_
  refine l_alloc hw0 ta27 rfl rfl (fun b0_0 w1 hw1 => ?_)
  try clear hw0
  refine l_assign rfl rfl rfl ?_
  refine l_assign rfl rfl rfl ?_
  refine l_nil ?_
  refine e_then ?_
  refine c_keep [0, 2] (.cons rfl (.cons rfl .nil)) ?_
  refine c_seq ?_
  refine c_region ?_
  refine l_move rfl rfl rfl ?_
  refine l_call rfl rfl Try.func26 rfl rfl (.cons rfl .nil) (readS v t hL w1 w (hw1.iarg hv) hv) ?_
  rintro _ w2 ⟨ng, wd, vw, vf, W, F, x, p, e, rfl, hR, hvw, hvf, hG⟩
  have hw2 := hG _ _ _ _ hw1
  try clear hG hw1
  simp only [List.cons_append, List.nil_append] at hw2
  have hfac := hR.facts
  obtain ⟨hdg, hWl, hFl, hx1, hx2, hw1', hw2'⟩ := hfac
  have hone1 := slice_one hvw
  have hone2 := slice_one hvf
  refine l_move rfl rfl rfl ?_
  refine l_extract rfl rfl rfl rfl ?_
  refine l_extract rfl rfl rfl rfl ?_
  refine l_extract rfl rfl rfl rfl ?_
  refine l_alloc hw2 ta62 rfl rfl (fun b1_6 w3 hw3 => ?_)
  try clear hw2
  refine l_store_blks hw3 .head (.zero (.zero (.zero (.zero (.zero .nil))))) rfl tz62 rfl rfl (by first | (simp [Value.oneCell']; done) | (intro u hu; simp only [List.mem_cons, List.not_mem_nil, or_false] at hu; rcases hu with rfl | rfl | rfl | rfl | rfl <;> first | rfl | assumption)) (fun w4 hw4 => ?_)
  try clear hw3
  refine l_assign rfl rfl rfl ?_
  refine l_assign rfl rfl rfl ?_
  refine l_nil ?_
  refine e_then ?_
  refine c_keep [2, 3, 4, 5] (.cons rfl (.cons rfl (.cons rfl (.cons rfl .nil)))) ?_
  refine c_seq ?_
  refine c_seq ?_
  refine c_region ?_
  refine l_move rfl rfl rfl ?_
  refine l_neq rfl rfl rfl rfl ?_
  refine l_nil ?_
  refine e_then ?_
  refine c_keep [2, 3, 4, 5, 17] (.cons rfl (.cons rfl (.cons rfl (.cons rfl (.cons rfl .nil))))) ?_
  first | refine c_cond rfl (fun hc0 => ?_) (fun hc0 => ?_) | refine c_condb rfl (fun hc0 => ?_) (fun hc0 => ?_)
  · skip
    refine c_seq ?_
    refine c_region ?_
    refine l_load_agg hw4 mem1 rfl rfl Try.underlying27 rfl tz27 rfl (.take (.take (.take (.take (.take .nil))))) ?_
    refine l_move rfl rfl rfl ?_
    refine l_move rfl rfl rfl ?_
    refine l_store_blks hw4 (.tail .head) (.zero (.zero (.zero (.zero (.zero .nil))))) rfl tz27 rfl rfl (by first | (simp [Value.oneCell']; done) | (intro u hu; simp only [List.mem_cons, List.not_mem_nil, or_false] at hu; rcases hu with rfl | rfl | rfl | rfl | rfl <;> first | rfl | assumption)) (fun w5 hw5 => ?_)
    try clear hw4
    refine l_assign rfl rfl rfl ?_
    refine l_assign rfl rfl rfl ?_
    refine l_nil ?_
    refine e_then ?_
    refine c_keep [2, 3, 4] (.cons rfl (.cons rfl (.cons rfl .nil))) ?_
    refine c_ret ?_
    refine e_then_ret ?_
    refine e_doneN Try.results11 (.cell rfl (load_agg_run hw5 mem1 Try.underlying27 rfl tz27 (.take (.take (.take (.take (.take .nil)))))) (.tmp rfl (.tmp rfl .nil))) rfl ?_
    refine ⟨_, rfl, ?_⟩
    have hw6 := St.del (.tail .head) hw5
    try clear hw5
    have hw7 := St.del .head hw6
    try clear hw6
    exact ⟨_, _, _, _, _, _, _, rfl, .err hR hc0, hw7.grows⟩
  · skip
    refine c_skip ?_
    refine e_then ?_
    refine c_keep [2, 5] (.cons rfl (.cons rfl .nil)) ?_
    refine c_seq ?_
    refine c_region ?_
    refine l_field fo62_0 rfl rfl rfl ?_
    refine l_load_blk hw4 mem0 rfl rfl Try.underlying4 rfl rfl rfl ?_
    refine l_move rfl rfl rfl ?_
    refine l_turn (s := 23) (v' := .bool (decide (ng = true))) rfl (by cases ng <;> rfl) ?_
    apply l_and 3 [2, 5] rfl rfl (.cons rfl (.cons rfl (.cons rfl .nil))) rfl rfl (fun _ => rfl) rfl rfl rfl
    · intro hg4_3
      refine l_field fo62_1 rfl rfl rfl ?_
      refine l_load_blk hw4 mem0 rfl rfl Try.underlying3 rfl rfl rfl ?_
      refine l_neq rfl rfl rfl rfl ?_
      refine l_nil ?_
      exact e_stays rfl (.cons rfl (congrArg Value.bool (decide_eq_true hg4_3).symm) (.cons rfl rfl (.cons rfl rfl .nil)))
    refine l_field fo62_1 rfl rfl rfl ?_
    refine l_load_blk hw4 mem0 rfl rfl Try.underlying3 rfl rfl rfl ?_
    refine l_buildS rfl rfl pl27 ta27 (.one rfl rfl (by first | rfl | assumption) .zero (.one rfl rfl (by first | rfl | assumption) (.succ .zero) .nil)) ?_
    refine l_store_blks hw4 (.tail .head) (.zero (.zero (.zero (.zero (.zero .nil))))) rfl tz27 rfl rfl (by first | (simp [Value.oneCell']; done) | (intro u hu; simp only [List.mem_cons, List.not_mem_nil, or_false] at hu; rcases hu with rfl | rfl | rfl | rfl | rfl <;> first | rfl | assumption)) (fun w8 hw8 => ?_)
    try clear hw4
    refine l_nil ?_
    refine e_then ?_
    refine c_keep [2, 5] (.cons rfl (.cons rfl .nil)) ?_
    refine c_seq ?_
    refine c_region ?_
    refine l_load_agg hw8 mem0 rfl rfl Try.underlying62 rfl tz62 rfl (.take (.take (.take (.take (.take .nil))))) ?_
    refine l_call rfl rfl Try.func27 rfl rfl (.cons rfl .nil) (allS ng wd x vw vf W F (by omega) (by omega) w8 (hw8.iarg hvw) (hw8.iarg hvf)) ?_
    rintro _ w9 ⟨vl, rfl, hG⟩
    have hw9 := hG _ _ _ _ hw8
    try clear hG hw8
    simp only [List.cons_append, List.nil_append] at hw9
    obtain ⟨L, hLe⟩ : ∃ L, L = skip0 (W ++ F) := ⟨_, rfl⟩
    rw [← hLe] at hw9
    have hLl := skip0_le (W ++ F)
    rw [← hLe, List.length_append] at hLl
    have hdL : ∀ j, j < L.length → isD (L.getD j 0) := fun j hj => by
      have : L.getD j 0 ∈ L := by
        have e : L.getD j 0 = L[j] := by simp [List.getD, hj]
        rw [e]; exact List.getElem_mem hj
      exact hdg _ (skip0_mem (hLe ▸ this))
    refine l_assign rfl rfl rfl ?_
    refine l_nil ?_
    refine e_then ?_
    refine c_keep [2, 5, 6] (.cons rfl (.cons rfl (.cons rfl .nil))) ?_
    refine c_seq ?_
    refine c_seq ?_
    refine c_region ?_
    refine l_field fo62_1 rfl rfl rfl ?_
    refine l_load_blk hw9 mem1 rfl rfl Try.underlying3 rfl rfl rfl ?_
    refine l_neq rfl rfl rfl rfl ?_
    refine l_move rfl rfl rfl ?_
    apply l_or 3 [2, 5, 6] rfl rfl (.cons rfl (.cons rfl (.cons rfl (.cons rfl .nil)))) rfl rfl (fun _ => rfl) rfl rfl rfl
    · intro hg6_4
      refine l_move rfl rfl rfl ?_
      refine v_lenb rfl rfl Try.underlying22 rfl (by first | exact hw9.ii mem0 | exact hw9.ibl mem1 | exact hw9.ibl mem2 | exact hw9.iarg hv | exact hw9.iarg hvw | exact hw9.iarg hvf | assumption) ?_
      refine l_eql rfl rfl rfl rfl ?_
      refine l_nil ?_
      exact e_stays rfl (.cons rfl (congrArg Value.bool (decide_eq_false hg6_4).symm) (.cons rfl rfl (.cons rfl rfl (.cons rfl rfl .nil))))
    refine l_nil ?_
    refine e_then ?_
    refine c_keep [2, 5, 6, 40] (.cons rfl (.cons rfl (.cons rfl (.cons rfl .nil)))) ?_
    first | refine c_cond rfl (fun hc1 => ?_) (fun hc1 => ?_) | refine c_condb rfl (fun hc1 => ?_) (fun hc1 => ?_)
    · skip
      refine c_seq ?_
      refine c_region ?_
      refine l_load_agg hw9 mem2 rfl rfl Try.underlying27 rfl tz27 rfl (.take (.take (.take (.take (.take .nil))))) ?_
      refine l_store_blks hw9 (.tail (.tail .head)) (.zero (.zero (.zero (.zero (.zero .nil))))) rfl tz27 rfl rfl (by first | (simp [Value.oneCell']; done) | (intro u hu; simp only [List.mem_cons, List.not_mem_nil, or_false] at hu; rcases hu with rfl | rfl | rfl | rfl | rfl <;> first | rfl | assumption)) (fun w10 hw10 => ?_)
      try clear hw9
      refine l_assign rfl rfl rfl ?_
      refine l_assign rfl rfl rfl ?_
      refine l_nil ?_
      refine e_then ?_
      refine c_keep [2, 3, 4] (.cons rfl (.cons rfl (.cons rfl .nil))) ?_
      refine c_ret ?_
      refine e_then_ret ?_
      refine e_doneN Try.results11 (.cell rfl (load_agg_run hw10 mem2 Try.underlying27 rfl tz27 (.take (.take (.take (.take (.take .nil)))))) (.tmp rfl (.tmp rfl .nil))) rfl ?_
      refine ⟨_, rfl, ?_⟩
      have hw11 := St.del (.tail (.tail .head)) hw10
      try clear hw10
      have hw12 := St.del (.tail .head) hw11
      try clear hw11
      have hw13 := St.del .head hw12
      try clear hw12
      have he : e = 0 := by omega
      subst he
      exact ⟨_, _, _, _, _, _, _, rfl, .nil hR (hc1.imp id fun h => List.eq_nil_of_length_eq_zero (by rw [← hLe]; omega)), hw13.grows⟩
    · skip
      refine c_skip ?_
      refine e_then ?_
      refine c_keep [2, 5, 6] (.cons rfl (.cons rfl (.cons rfl .nil))) ?_
      refine c_seq ?_
      refine c_region ?_
      refine l_move rfl rfl rfl ?_
      refine v_lenb rfl rfl Try.underlying22 rfl (by first | exact hw9.ii mem0 | exact hw9.ibl mem1 | exact hw9.ibl mem2 | exact hw9.iarg hv | exact hw9.iarg hvw | exact hw9.iarg hvf | assumption) ?_
      refine l_sub rfl rfl rfl rfl (w_i64 (by omega)) ?_
      refine l_max rfl rfl rfl rfl ?_
      refine l_assign rfl rfl rfl ?_
      refine l_nil ?_
      refine e_then ?_
      refine c_keep [2, 5, 6, 7] (.cons rfl (.cons rfl (.cons rfl (.cons rfl .nil)))) ?_
      refine c_seq ?_
      refine c_region ?_
      have hwd : wd = 0 := by omega
      have hL0 : 0 < L.length := by omega
      obtain ⟨n, hn⟩ : ∃ n : Nat, n = L.length - 19 := ⟨_, rfl⟩
      have hdk := digs_take hdL (L.length - n)
      refine l_turn (s := 7) (v' := .int .i64 (n : Int)) rfl (congrArg (Value.int .i64) (by omega)) ?_
      refine l_move rfl rfl rfl ?_
      refine l_move rfl rfl rfl ?_
      refine v_lenb rfl rfl Try.underlying22 rfl (by first | exact hw9.ii mem0 | exact hw9.ibl mem1 | exact hw9.ibl mem2 | exact hw9.iarg hv | exact hw9.iarg hvw | exact hw9.iarg hvf | assumption) ?_
      refine l_move rfl rfl rfl ?_
      refine l_sub rfl rfl rfl rfl (w_i64 (by omega)) ?_
      refine v_cut (l := 0) (h := L.length - n) rfl rfl Try.underlying22 tz5 rfl rfl rfl rfl (by first | exact hw9.ii mem0 | exact hw9.ibl mem1 | exact hw9.ibl mem2 | exact hw9.iarg hv | exact hw9.iarg hvw | exact hw9.iarg hvf | assumption) (by first | rfl | (simp; done) | (simp; omega)) (by first | rfl | (simp; done) | (simp; omega)) (.inl rfl) (by simp) (by omega) (by first | omega | (simp; omega) | (simp; done)) (fun v9_5 h9_5 ho9_5 => ?_)
      rw [bys_cut, List.drop_zero] at h9_5
      refine l_callp rfl rfl Try.func28 rfl rfl (.cons rfl .nil) (valueD _ (L.take (L.length - n)) hdk (by rw [List.length_take]; omega) (by rw [List.length_take]; omega) w9 h9_5) ?_
      refine l_move rfl rfl rfl ?_
      refine l_extract rfl rfl rfl rfl ?_
      refine l_extract rfl rfl rfl rfl ?_
      refine l_field fo27_2 rfl rfl rfl ?_
      refine l_store_blk hw9 (.tail (.tail .head)) (by repeat (first | exact .zero | apply SetAt.succ)) rfl tz25 rfl rfl (by first | rfl | assumption) (fun w14 hw14 => ?_)
      try clear hw9
      refine l_nil ?_
      refine e_then ?_
      refine c_keep [2, 5, 6, 7] (.cons rfl (.cons rfl (.cons rfl (.cons rfl .nil)))) ?_
      refine c_seq ?_
      refine c_region ?_
      refine l_field fo62_4 rfl rfl rfl ?_
      refine l_load_blk hw14 mem1 rfl rfl Try.underlying3 rfl rfl rfl ?_
      refine l_field fo62_3 rfl rfl rfl ?_
      refine l_load_blk hw14 mem1 rfl rfl Try.underlying22 rfl rfl rfl ?_
      refine v_lenb rfl rfl Try.underlying22 rfl (by first | exact hw14.ii mem0 | exact hw14.ibl mem1 | exact hw14.ibl mem2 | exact hw14.iarg hv | exact hw14.iarg hvw | exact hw14.iarg hvf | assumption) ?_
      refine l_sub rfl rfl rfl rfl (w_i64 (by omega)) ?_
      refine l_move rfl rfl rfl ?_
      refine l_add rfl rfl rfl rfl (w_i64 (by omega)) ?_
      refine l_field fo27_3 rfl rfl rfl ?_
      refine l_store_blk hw14 (.tail (.tail .head)) (by repeat (first | exact .zero | apply SetAt.succ)) rfl tz3 rfl rfl (by first | rfl | assumption) (fun w15 hw15 => ?_)
      try clear hw14
      refine l_nil ?_
      refine e_then ?_
      refine c_keep [2, 6, 7] (.cons rfl (.cons rfl (.cons rfl .nil))) ?_
      refine c_seq ?_
      refine c_seq ?_
      refine c_region ?_
      refine l_move rfl rfl rfl ?_
      refine l_move rfl rfl rfl ?_
      refine v_lenb rfl rfl Try.underlying22 rfl (by first | exact hw15.ii mem0 | exact hw15.ibl mem1 | exact hw15.ibl mem2 | exact hw15.iarg hv | exact hw15.iarg hvw | exact hw15.iarg hvf | assumption) ?_
      refine l_move rfl rfl rfl ?_
      refine l_sub rfl rfl rfl rfl (w_i64 (by omega)) ?_
      refine v_cut (l := L.length - n) (h := L.length) rfl rfl Try.underlying22 tz5 rfl rfl rfl rfl (by first | exact hw15.ii mem0 | exact hw15.ibl mem1 | exact hw15.ibl mem2 | exact hw15.iarg hv | exact hw15.iarg hvw | exact hw15.iarg hvf | assumption) (by first | rfl | (simp; done) | (simp; omega)) (by first | rfl | (simp; done) | (simp; omega)) (.inl rfl) (by simp) (by omega) (by first | omega | (simp; omega) | (simp; done)) (fun v11_5 h11_5 ho11_5 => ?_)
      rw [bys_cut, List.take_length] at h11_5
      have htl : (L.drop (L.length - n)).length = n := by rw [List.length_drop]; omega
      have hw16 := St.iv_cut hw15 h11_5 ho11_5
      try clear hw15
      refine v_lenb rfl rfl Try.underlying22 rfl (by first | exact hw16.ii mem0 | exact hw16.ibl mem1 | exact hw16.ibl mem2 | exact hw16.iarg hv | exact hw16.iarg hvw | exact hw16.iarg hvf | assumption) ?_
      refine l_move rfl rfl rfl ?_
      refine l_nil ?_
      refine e_then ?_
      refine c_keep [2, 71, 72, 73] (.cons rfl (.cons rfl (.cons rfl (.cons rfl .nil)))) ?_
      refine c_block ?_
      refine c_loopk (ι := Nat × Bool) (fun (z0 : Nat × Bool) => match z0 with | ⟨k, mb⟩ => n - k) (fun (z0 : Nat × Bool) (w' : World) => match z0 with | ⟨k, mb⟩ => St w w.heap.size None' ([As.iv v11_5 (bys (L.drop (L.length - n))), As.blk b1_6 62 [.bool ng, .int .i64 wd, vw, vf, .int .i64 x], As.blk b0_0 27 [.bool (decide (ng = true ∧ ¬ wd = 2)), .int .i64 wd, .int .u64 (pv (L.take (L.length - n))), .int .i64 (x - (F.length : Int) + (n : Int)), .bool mb]]) w' ∧ k ≤ n ∧ mb = ((L.drop (L.length - n)).take k).any (fun c => !decide (c = 48))) (fun (z0 : Nat × Bool) => match z0 with | ⟨k, mb⟩ => [(73, .int .i64 (k : Int))]) [2, 71, 72] (0, false) ?_ (.cons rfl (.cons rfl (.cons rfl .nil))) ?_ ?_
      · exact ⟨hw16, by omega, rfl⟩
      · exact (.cons rfl (by first | rfl | (refine congrArg (Value.int _) ?_; omega)) .nil)
      rintro ⟨k, mb⟩ w17 ⟨hw17, hk, hmb⟩
      show RunC P _ _ _ (_ :: _) _
      refine c_seq ?_
      refine c_region ?_
      refine l_lss rfl rfl rfl rfl ?_
      refine l_nil ?_
      refine e_then ?_
      refine c_seq ?_
      first | refine c_cond rfl (fun hc2 => ?_) (fun hc2 => ?_) | refine c_condb rfl (fun hc2 => ?_) (fun hc2 => ?_)
      · skip
        refine c_skip ?_
        refine e_then ?_
        refine c_keep [2, 71, 72, 73] (.cons rfl (.cons rfl (.cons rfl (.cons rfl .nil)))) ?_
        refine c_seq ?_
        refine c_block ?_
        refine c_seq ?_
        refine c_region ?_
        skip
        refine v_getbr rfl rfl rfl rfl Try.underlying22 tz5 Try.underlying5 rfl rfl (by first | exact hw17.ii mem0 | exact hw17.ibl mem1 | exact hw17.ibl mem2 | exact hw17.iarg hv | exact hw17.iarg hvw | exact hw17.iarg hvf | assumption) rfl rfl (by omega) (fun hb13_0 => ?_)
        refine l_assign rfl rfl rfl ?_
        refine l_nil ?_
        refine e_then ?_
        refine c_keep [2, 9, 71, 72, 73] (.cons rfl (.cons rfl (.cons rfl (.cons rfl (.cons rfl .nil))))) ?_
        refine c_region ?_
        refine l_field fo27_4 rfl rfl rfl ?_
        refine l_load_blk hw17 mem2 rfl rfl Try.underlying4 rfl rfl rfl ?_
        refine l_move rfl rfl rfl ?_
        refine l_turn (s := 79) (v' := .bool (decide (mb = true))) rfl (by cases mb <;> rfl) ?_
        apply l_or 2 [2, 71, 72, 73] rfl rfl (.cons rfl (.cons rfl (.cons rfl (.cons rfl (.cons rfl .nil))))) rfl rfl (fun _ => rfl) rfl rfl rfl
        · intro hg14_3
          refine l_move rfl rfl rfl ?_
          refine l_neq rfl rfl rfl rfl ?_
          refine l_nil ?_
          exact e_stays rfl (.cons rfl (congrArg Value.bool (decide_eq_false hg14_3).symm) (.cons rfl rfl (.cons rfl rfl (.cons rfl rfl (.cons rfl rfl .nil)))))
        refine l_field fo27_4 rfl rfl rfl ?_
        refine l_store_blk hw17 (.tail (.tail .head)) (by repeat (first | exact .zero | apply SetAt.succ)) rfl tz4 rfl rfl (by first | rfl | assumption) (fun w18 hw18 => ?_)
        try clear hw17
        refine l_nil ?_
        refine e_blk ?_
        refine e_then ?_
        refine c_keep [2, 71, 72, 73] (.cons rfl (.cons rfl (.cons rfl (.cons rfl .nil)))) ?_
        refine c_region ?_
        refine l_add rfl rfl rfl rfl (w_i64 (by omega)) ?_
        refine l_move rfl rfl rfl ?_
        refine l_nil ?_
        refine e_againk (i := (k, mb)) (k + 1, decide (mb = true ∨ ¬ ((((L.drop (L.length - n)).getD k 0).toNat : Int)) = 48)) ?_ ?_ (.cons rfl (.cons rfl (.cons rfl .nil))) ?_
        · first | omega | (simp; omega)
        · refine ⟨hw18, by omega, ?_⟩
          rw [any_snoc _ _ (by omega), ← hmb]
          have e : ((((L.drop (L.length - n)).getD k 0).toNat : Int) = 48) ↔ ((L.drop (L.length - n)).getD k 0 = 48) := u8_eq (d := 48)
          generalize (L.drop (L.length - n)).getD k 0 = cc at e ⊢
          by_cases h : cc = 48
          · have h2 := e.2 h
            simp [h]
          · have h2 : ¬ (cc.toNat : Int) = 48 := fun h3 => h (e.1 h3)
            rw [decide_eq_true (Or.inr h2), decide_eq_false h]
            simp
        · exact (.cons rfl (by first | rfl | (refine congrArg (Value.int _) ?_; omega)) .nil)
      · skip
        refine c_exit ?_
        refine e_then_exit ?_
        refine e_then_exit ?_
        refine e_blk_exit ?_
        refine e_then ?_
        refine c_keep [2] (.cons rfl .nil) ?_
        refine c_seq ?_
        refine c_region ?_
        refine l_load_agg hw17 mem2 rfl rfl Try.underlying27 rfl tz27 rfl (.take (.take (.take (.take (.take .nil))))) ?_
        refine l_store_blks hw17 (.tail (.tail .head)) (.zero (.zero (.zero (.zero (.zero .nil))))) rfl tz27 rfl rfl (by first | (simp [Value.oneCell']; done) | (intro u hu; simp only [List.mem_cons, List.not_mem_nil, or_false] at hu; rcases hu with rfl | rfl | rfl | rfl | rfl <;> first | rfl | assumption)) (fun w19 hw19 => ?_)
        try clear hw17
        refine l_assign rfl rfl rfl ?_
        refine l_assign rfl rfl rfl ?_
        refine l_nil ?_
        refine e_then ?_
        refine c_keep [2, 3, 4] (.cons rfl (.cons rfl (.cons rfl .nil))) ?_
        refine c_ret ?_
        refine e_doneN Try.results11 (.cell rfl (load_agg_run hw19 mem2 Try.underlying27 rfl tz27 (.take (.take (.take (.take (.take .nil)))))) (.tmp rfl (.tmp rfl .nil))) rfl ?_
        refine ⟨_, rfl, ?_⟩
        have hw20 := St.del (.tail (.tail .head)) hw19
        try clear hw19
        have hw21 := St.del (.tail .head) hw20
        try clear hw20
        have hw22 := St.del .head hw21
        try clear hw21
        have he : e = 0 := by omega
        subst he hwd
        have hng : decide (ng = true ∧ ¬ (0 : Int) = 2) = ng := by cases ng <;> rfl
        obtain rfl : k = n := by omega
        rw [List.take_of_length_le (by omega)] at hmb
        rw [hng, hmb, hLe]
        rw [hLe] at hn
        exact ⟨_, _, _, _, _, _, _, rfl, .num hR (fun h => by rw [← hLe] at h; rw [h] at hL0; simp at hL0) hn, hw22.grows⟩
end Go.Proofs.Ytjkaahnadaapoaa.W
