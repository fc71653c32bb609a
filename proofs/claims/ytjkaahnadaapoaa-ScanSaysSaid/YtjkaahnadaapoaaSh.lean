/- walks of the document's Value, Scan -/
import Derived.Test.YtjkaahnadaapoaaSg
set_option linter.unusedVariables false
set_option linter.unusedSimpArgs false
set_option maxRecDepth 10000
namespace Go.Proofs.Ytjkaahnadaapoaa.W
open Go.Vc Go.RowKit

theorem cn_len8 {l : List Int} {n : Int} (h : Ma.Cn 18446744073709551616 l n) {k : Nat} (hb : Ma.blen n ≤ k) : 64 * l.length ≤ k + 64 := by
  rcases Nat.eq_zero_or_pos l.length with h0 | h0
  · omega
  · have := Ma.blen_top (s := 64) h.dg h.tr h0
    rw [show ((2 : Int) ^ 64) = 18446744073709551616 from rfl, h.val] at this
    have := Ma.blen_nonneg (l.getD (l.length - 1) 0)
    omega
theorem one_word {ls : List Int} {n : Int} (h : Ma.Cn 18446744073709551616 ls n) (hn : n < 18446744073709551616) : (ls ++ [0]).getD 0 0 = n := by
  have hv := h.val
  cases ls with
  | nil => simpa [Ma.vb] using hv
  | cons x r =>
    have h1 := Ma.vb_nonneg (show (0 : Int) < 18446744073709551616 by omega) (l := r) (fun y hy => h.dg y (.tail _ hy))
    have h2 := h.dg x (.head _)
    simp only [Ma.vb] at hv
    show x = n
    omega
theorem pv_drop {l : L8} {z : Nat} (hz : z ≤ l.length) (h : ∀ j, j < z → l.getD j 0 = 48) : pv (l.drop z) = pv l := by
  have h1 := pv_split l z hz (l.length - z) (by omega)
  have h2 := pv_zeros (l.take z) (fun j hj => by rw [List.length_take] at hj; have := h j (by omega); simpa [List.getD, List.getElem?_take, show j < z by omega] using this)
  rw [h2, show z + (l.length - z) = l.length from by omega, List.take_length, List.take_of_length_le (by rw [List.length_drop]; omega)] at h1
  omega
theorem ReadR.unique {t : L8} {ng ng' : Bool} {wd x p e wd' x' p' e' : Int} {W F W' F' : L8} (h : ReadR t ng wd W F x p e) (k : ReadR t ng' wd' W' F' x' p' e') : ng = ng' ∧ wd = wd' ∧ W = W' ∧ F = F' ∧ x = x' ∧ p = p' ∧ e = e' := by
  cases h with
  | long h =>
    cases k with
    | long _ => exact ⟨rfl, rfl, rfl, rfl, rfl, rfl, rfl⟩
    | form h2 _ => omega
    | ok h2 _ => omega
  | form h hc =>
    cases k with
    | long _ => omega
    | form _ hc2 => obtain ⟨_, _, _, _, _, rfl, _⟩ := hc.unique hc2; exact ⟨rfl, rfl, rfl, rfl, rfl, rfl, rfl⟩
    | ok _ hc2 => obtain ⟨_, _, _, _, _, _, h⟩ := hc.unique hc2; cases h
  | ok h hc =>
    cases k with
    | long _ => omega
    | form _ hc2 => obtain ⟨_, _, _, _, _, _, h⟩ := hc.unique hc2; cases h
    | ok _ hc2 => obtain ⟨rfl, rfl, rfl, rfl, rfl, _, _⟩ := hc.unique hc2; exact ⟨rfl, rfl, rfl, rfl, rfl, rfl, rfl⟩
theorem ScanR.unique {t : L8} {ng ng' more more' : Bool} {wd man x p e wd' man' x' p' e' : Int} (h : ScanR t ng wd man x more p e) (k : ScanR t ng' wd' man' x' more' p' e') : ng = ng' ∧ wd = wd' ∧ man = man' ∧ x = x' ∧ more = more' ∧ p = p' ∧ e = e' := by
  cases h with
  | err hr he =>
    cases k with
    | err hr2 _ => obtain ⟨_, _, _, _, _, rfl, rfl⟩ := hr.unique hr2; exact ⟨rfl, rfl, rfl, rfl, rfl, rfl, rfl⟩
    | nil hr2 _ => obtain ⟨_, _, _, _, _, _, h⟩ := hr.unique hr2; exact absurd h he
    | num hr2 _ _ => obtain ⟨_, _, _, _, _, _, h⟩ := hr.unique hr2; exact absurd h he
  | nil hr hn =>
    cases k with
    | err hr2 he => obtain ⟨_, _, _, _, _, _, h⟩ := hr2.unique hr; exact absurd h he
    | nil hr2 _ => obtain ⟨rfl, rfl, _⟩ := hr.unique hr2; exact ⟨rfl, rfl, rfl, rfl, rfl, rfl, rfl⟩
    | num hr2 hne _ =>
      obtain ⟨rfl, rfl, rfl, rfl, _⟩ := hr.unique hr2
      rcases hn with h | h
      · exact absurd rfl h
      · exact absurd h hne
  | num hr hne hn =>
    cases k with
    | err hr2 he => obtain ⟨_, _, _, _, _, _, h⟩ := hr2.unique hr; exact absurd h he
    | nil hr2 h2 =>
      obtain ⟨rfl, rfl, rfl, rfl, _⟩ := hr.unique hr2
      rcases h2 with h | h
      · exact absurd rfl h
      · exact absurd h hne
    | num hr2 _ hn2 => obtain ⟨rfl, _, rfl, rfl, rfl, _⟩ := hr.unique hr2; subst hn hn2; exact ⟨rfl, rfl, rfl, rfl, rfl, rfl, rfl⟩
/-- the document's pieces, as the program's reading -/
theorem RC.read {t : L8} {ng en : Bool} {wd : Int} {W F E : L8} (h : RC t ng wd W F en E true) (hl : t.length ≤ 1024) : ∃ ng', ReadR t ng' wd W F (expS en E) 0 0 ∧ ng = decide (ng' = true ∧ ¬ wd = 2) := by
  obtain ⟨ng', wd', W', F', x, a, hc, hp⟩ := h.cut
  obtain ⟨rfl, rfl, rfl, hng, rfl⟩ := hp rfl
  exact ⟨ng', .ok hl hc, hng⟩
theorem RC.elen {t : L8} {ng en ok : Bool} {wd : Int} {W F E : L8} (h : RC t ng wd W F en E ok) : E.length ≤ t.length := by
  have hF : ∀ {a b c : L8}, Fs a b c → c.length ≤ a.length := fun h => by
    cases h with
    | no _ => exact Nat.le_refl _
    | yes _ _ => simp only [List.length_drop]; omega
  cases h with
  | exp eb _ hf _ _ _ eE =>
    have h1 := hF hf
    subst eE eb
    simp only [List.length_take, List.length_drop] at h1 ⊢
    omega
  | _ => simp
theorem RC.digs {t : L8} {ng en ok : Bool} {wd : Int} {W F E : L8} (h : RC t ng wd W F en E ok) : ∀ x ∈ E, isD x := by
  cases h with
  | @exp b F R E eb hw hf hz hr he eE =>
    intro x hx
    obtain ⟨j, hj, rfl⟩ := List.getElem_of_mem hx
    rw [List.length_take] at hj
    have := run_all E j (by omega)
    have hj2 : j < E.length := by omega
    simpa [List.getD, hj2] using this
  | _ => intro x hx; cases hx

theorem value4 (v : Value) (l : L8) (hd : ∀ j, j < l.length → isD (l.getD j 0)) (h1 : 1 ≤ l.length) (h19 : l.length ≤ 19) (w : World) (hv : IB w v l) :
    CallsV P 31 [v] w fun r w' => r = .tuple #[.int .u64 (pv l), .int .i64 0] ∧ Grow w w' [] := by
  refine enterW Try.func31 rfl Try.ntmps31 rfl ?_
  have hw0 := St.start w
  have hrun : run (l.drop 0) = l.length := by rw [List.drop_zero]; exact run_is l l.length hd (Nat.le_refl _) (fun h => absurd h (by omega))
  have hpb := pv_bounds l.length l rfl (isD_mem hd)
  have hp19 : (10 : Int) ^ l.length ≤ 10 ^ 19 := by
    have : (10 : Nat) ^ l.length ≤ 10 ^ 19 := Nat.pow_le_pow_right (by omega) (by omega)
    exact_mod_cast this
  rw [ten19] at hp19
  refine c_seq ?_
  refine c_region ?_
  refine l_assign rfl rfl rfl ?_
  refine l_assign rfl rfl rfl ?_
  refine l_nil ?_
  refine e_then ?_
  refine c_keep [0] (.cons rfl .nil) ?_
  refine c_seq ?_
  refine c_seq ?_
  refine c_region ?_
  refine l_move rfl rfl rfl ?_
  refine v_lenb rfl rfl Try.underlying22 rfl (by first | exact hw0.iarg hv | exact hw0.iarg hvb | assumption) ?_
  refine l_eql rfl rfl rfl rfl ?_
  refine l_move rfl rfl rfl ?_
  apply l_or 5 [0] rfl rfl (.cons rfl (.cons rfl .nil)) rfl rfl (fun _ => rfl) rfl rfl rfl
  · intro hg1_4
    refine l_move rfl rfl rfl ?_
    refine l_callp rfl rfl Try.func49 rfl rfl (.cons rfl (.cons rfl .nil)) (run_ref04 v l (by omega) 0 (by omega) w (hw0.iarg hv)) ?_
    refine l_move rfl rfl rfl ?_
    refine v_lenb rfl rfl Try.underlying22 rfl (by first | exact hw0.iarg hv | exact hw0.iarg hvb | assumption) ?_
    refine l_lss rfl rfl rfl rfl ?_
    refine l_nil ?_
    exact e_stays rfl (.cons rfl (congrArg Value.bool (decide_eq_false hg1_4).symm) (.cons rfl rfl .nil))
  refine l_nil ?_
  refine e_then ?_
  refine c_keep [0, 14] (.cons rfl (.cons rfl .nil)) ?_
  first | refine c_cond rfl (fun hc0 => ?_) (fun hc0 => ?_) | refine c_condb rfl (fun hc0 => ?_) (fun hc0 => ?_)
  · skip
    omega
  · skip
    refine c_skip ?_
    refine e_then ?_
    refine c_keep [0] (.cons rfl .nil) ?_
    refine c_seq ?_
    refine c_block ?_
    refine c_loopk (ι := Value × Nat) (fun (z0 : Value × Nat) => match z0 with | ⟨vb, z⟩ => l.length - z) (fun (z0 : Value × Nat) (w' : World) => match z0 with | ⟨vb, z⟩ => St w w.heap.size None' ([]) w' ∧ IV w vb (bys (l.drop z)) ∧ z ≤ l.length ∧ ∀ j, j < z → l.getD j 0 = 48) (fun (z0 : Value × Nat) => match z0 with | ⟨vb, z⟩ => [(0, vb)]) [] (v, 0) ?_ .nil ?_ ?_
    · exact ⟨hw0, hv, by omega, fun j hj => by omega⟩
    · exact (.cons rfl (by first | rfl | (refine congrArg (Value.int _) ?_; omega)) .nil)
    rintro ⟨vb, z⟩ w1 ⟨hw1, hvb, hz, hzs⟩
    show RunC P _ _ _ (_ :: _) _
    have hlz : (l.drop z).length = l.length - z := List.length_drop
    refine c_seq ?_
    refine c_seq ?_
    refine c_region ?_
    refine l_move rfl rfl rfl ?_
    refine v_lenb rfl rfl Try.underlying22 rfl (by first | exact hw1.iarg hv | exact hw1.iarg hvb | assumption) ?_
    refine l_gtr rfl rfl rfl rfl ?_
    refine l_move rfl rfl rfl ?_
    apply l_and 4 [0] rfl rfl (.cons rfl (.cons rfl .nil)) rfl rfl (fun _ => rfl) rfl rfl rfl
    · intro hg3_4
      refine l_move rfl rfl rfl ?_
      refine v_getbr (j := 0) rfl rfl rfl rfl Try.underlying22 tz5 Try.underlying5 rfl rfl (by first | exact hw1.iarg hv | exact hw1.iarg hvb | assumption) rfl (by omega) (by omega) (fun hb3_5 => ?_)
      refine l_eql rfl rfl rfl rfl ?_
      refine l_nil ?_
      exact e_stays rfl (.cons rfl (congrArg Value.bool (decide_eq_true hg3_4).symm) (.cons rfl rfl .nil))
    refine l_nil ?_
    refine e_then ?_
    refine c_keep [0, 23] (.cons rfl (.cons rfl .nil)) ?_
    first | refine c_cond rfl (fun hc1 => ?_) (fun hc1 => ?_) | refine c_condb rfl (fun hc1 => ?_) (fun hc1 => ?_)
    · skip
      refine c_skip ?_
      refine e_then ?_
      refine c_keep [0] (.cons rfl .nil) ?_
      refine c_block ?_
      refine c_region ?_
      refine l_move rfl rfl rfl ?_
      refine v_cut (l := 1) (h := (l.drop z).length) rfl rfl Try.underlying22 tz5 rfl rfl rfl rfl hvb (by first | rfl | (simp; done) | (simp; omega)) (by first | rfl | (simp; done) | (simp; omega)) (.inl rfl) (by simp) (by omega) (by first | omega | (simp; omega) | (simp; done)) (fun v4_1 h4_1 ho4_1 => ?_)
      rw [bys_cut, List.take_length, List.drop_drop] at h4_1
      refine l_assign rfl rfl rfl ?_
      refine l_nil ?_
      refine e_blk ?_
      refine e_againk (i := (vb, z)) (v4_1, z + 1) ?_ ?_ .nil ?_
      · first | omega | (simp; omega)
      · refine ⟨hw1, h4_1, by omega, fun j hj => ?_⟩
        rcases Nat.lt_or_ge j z with h | h
        · exact hzs j h
        · obtain rfl : j = z := by omega
          have := hc1.2
          rw [getD_drop] at this
          exact u8_eq.1 this
      · exact (.cons rfl (by first | rfl | (refine congrArg (Value.int _) ?_; omega)) .nil)
    · skip
      refine c_exit ?_
      refine e_then_exit ?_
      refine e_then_exit ?_
      refine e_blk_exit ?_
      refine e_then ?_
      refine c_keep [0] (.cons rfl .nil) ?_
      refine c_seq ?_
      refine c_seq ?_
      refine c_region ?_
      refine l_move rfl rfl rfl ?_
      refine v_lenb rfl rfl Try.underlying22 rfl (by first | exact hw1.iarg hv | exact hw1.iarg hvb | assumption) ?_
      refine l_gtr rfl rfl rfl rfl ?_
      refine l_nil ?_
      refine e_then ?_
      refine c_keep [0, 28] (.cons rfl (.cons rfl .nil)) ?_
      first | refine c_cond rfl (fun hc2 => ?_) (fun hc2 => ?_) | refine c_condb rfl (fun hc2 => ?_) (fun hc2 => ?_)
      · skip
        simp only [List.length_drop] at hc2
        omega
      · skip
        refine c_skip ?_
        refine e_then ?_
        refine c_keep [0] (.cons rfl .nil) ?_
        refine c_seq ?_
        refine c_region ?_
        refine l_move rfl rfl rfl ?_
        refine l_call rfl rfl Try.func38 rfl rfl (.cons rfl .nil) (number4 vb (l.drop z) (digs_drop hd z) (by rw [List.length_drop]; omega) w1 (hw1.iarg hvb)) ?_
        rintro _ w2 ⟨vn, ln, rfl, hRn, hG⟩
        have hw2 := hG _ _ _ _ hw1
        try clear hG hw1
        simp only [List.cons_append, List.nil_append] at hw2
        rw [pv_drop hz hzs] at hRn
        have hb64 : Ma.blen (pv l) ≤ (64 : Nat) := (Ma.blen_le_iff hpb.1 64).2 (by rw [show (2 : Int) ^ 64 = 18446744073709551616 from by decide]; omega)
        refine l_assign rfl rfl rfl ?_
        refine l_nil ?_
        refine e_then ?_
        refine c_keep [4] (.cons rfl .nil) ?_
        refine c_seq ?_
        refine c_seq ?_
        refine c_region ?_
        refine l_move rfl rfl rfl ?_
        refine l_callp rfl rfl Try.func50 rfl rfl (.cons rfl .nil) (bitsR _ _ _ hRn (by have := hRn.len (k := 64) hb64; omega) w2 (hw2.io mem0)) ?_
        refine l_gtr rfl rfl rfl rfl ?_
        refine l_nil ?_
        refine e_then ?_
        refine c_keep [4, 33] (.cons rfl (.cons rfl .nil)) ?_
        first | refine c_cond rfl (fun hc3 => ?_) (fun hc3 => ?_) | refine c_condb rfl (fun hc3 => ?_) (fun hc3 => ?_)
        · skip
          omega
        · skip
          refine c_skip ?_
          refine e_then ?_
          refine c_keep [4] (.cons rfl .nil) ?_
          refine c_seq ?_
          refine c_region ?_
          refine l_move rfl rfl rfl ?_
          refine l_call rfl rfl Try.func20 rfl rfl (.cons rfl .nil) (wordsR _ _ _ hRn (by have := hRn.len (k := 64) hb64; omega) w2 (hw2.io mem0)) ?_
          rintro _ w3 ⟨vw, ls, rfl, hcn, hG⟩
          have hw3 := hG _ _ _ _ hw2
          try clear hG hw2
          simp only [List.cons_append, List.nil_append] at hw3
          have hUs : U (ls ++ [0]) := fun x hx => (List.mem_append.1 hx).elim (fun h => by have := hcn.dg x h; omega) (fun h => by rw [List.mem_singleton.1 h]; omega)
          have hll := cn_len8 hcn hb64
          have hlsn : (ls ++ [0]).length = ls.length + 1 := by simp
          refine v_lit hw3 rfl rfl Try.underlying42 ti25 rfl (.cons rfl (by first | rfl | assumption) .nil) rfl rfl rfl (fun b10_2 w4 hw4 => ?_)
          try clear hw3
          refine v_push hw4 rfl rfl Try.underlying42 ti25 rfl rfl rfl rfl (by first | (simp [Value.oneCell']; done) | (intro u hu; rw [List.mem_singleton.1 hu]; assumption)) (by first | (simp; done) | (simp; omega)) (by first | (simp; done) | (simp; omega)) (fun v10_3 w5 hw5 => ?_)
          try clear hw4
          rw [ints_snoc] at hw5
          refine v_getr (j := 0) rfl rfl rfl rfl Try.underlying42 tz25 Try.underlying25 rfl rfl (by first | exact hw5.io mem0 | exact hw5.io mem1 | exact hw5.iarg hv | exact hw5.iarg hvb | assumption) (by assumption) rfl (by omega) (by omega) (fun hb10_4 => ?_)
          refine l_assign rfl rfl rfl ?_
          refine l_assign rfl rfl rfl ?_
          refine l_nil ?_
          refine e_then ?_
          refine c_keep [2, 3] (.cons rfl (.cons rfl .nil)) ?_
          refine c_ret ?_
          refine e_done2 Try.results31 rfl rfl ?_
          refine ⟨_, rfl, ?_⟩
          have hw6 := St.del (.tail .head) hw5
          try clear hw5
          have hw7 := St.del .head hw6
          try clear hw6
          exact ⟨by rw [one_word hcn (by omega)], hw7.grows⟩
theorem scan8 (v : Value) (t : L8) (hL : t.length ≤ 1099511627776) (w : World) (hv : IB w v t) :
    CallsV P 12 [v] w fun r w' => ∃ ng wd man x more p e, r = .tuple #[.agg #[.bool ng, .int .i64 wd, .int .u64 man, .int .i64 x, .bool more], .int .i64 p, .int .i64 e] ∧ ScanR t ng wd man x more p e ∧ Grow w w' [] := by
  refine enterW Try.func12 rfl Try.ntmps12 rfl ?_
  have hw0 := St.start w
  refine c_seq ?_
  refine c_region ?_
  refine l_alloc hw0 ta27 rfl rfl (fun b0_0 w1 hw1 => ?_)
  try clear hw0
  refine l_assign rfl rfl rfl ?_
  refine l_assign rfl rfl rfl ?_
  refine l_nil ?_
  refine e_then ?_
  refine c_keep [0, 2] (.cons rfl (.cons rfl .nil)) ?_
  refine c_seq ?_
  refine c_region ?_
  refine l_move rfl rfl rfl ?_
  refine l_call rfl rfl Try.func29 rfl rfl (.cons rfl .nil) (check8 v t hL w1 (hw1.iarg hv)) ?_
  rintro _ w2 ⟨ng, wd, W, F, en, E, p, e, rfl, hR, hG⟩
  have hw2 := hG _ _ _ _ hw1
  try clear hG hw1
  simp only [List.cons_append, List.nil_append] at hw2
  refine l_move rfl rfl rfl ?_
  refine l_extract rfl rfl rfl rfl ?_
  refine l_extract rfl rfl rfl rfl ?_
  refine l_extract rfl rfl rfl rfl ?_
  refine l_alloc hw2 ta69 rfl rfl (fun b1_6 w3 hw3 => ?_)
  try clear hw2
  refine l_store_blks hw3 .head (.zero (.zero (.zero (.zero (.zero (.zero .nil)))))) rfl tz69 rfl rfl (by first | (simp [Value.oneCell']; done) | (intro u hu; simp only [List.mem_cons, List.not_mem_nil, or_false] at hu; rcases hu with rfl | rfl | rfl | rfl | rfl | rfl <;> first | rfl | assumption)) (fun w4 hw4 => ?_)
  try clear hw3
  refine l_assign rfl rfl rfl ?_
  refine l_assign rfl rfl rfl ?_
  refine l_nil ?_
  refine e_then ?_
  refine c_keep [2, 5, 6, 7] (.cons rfl (.cons rfl (.cons rfl (.cons rfl .nil)))) ?_
  refine c_seq ?_
  refine c_seq ?_
  refine c_region ?_
  refine l_move rfl rfl rfl ?_
  refine l_neq rfl rfl rfl rfl ?_
  refine l_nil ?_
  refine e_then ?_
  refine c_keep [2, 5, 6, 7, 20] (.cons rfl (.cons rfl (.cons rfl (.cons rfl (.cons rfl .nil))))) ?_
  first | refine c_cond rfl (fun hc0 => ?_) (fun hc0 => ?_) | refine c_condb rfl (fun hc0 => ?_) (fun hc0 => ?_)
  · skip
    refine c_seq ?_
    refine c_region ?_
    refine l_buildS rfl rfl pl27 ta27 .nil ?_
    refine l_move rfl rfl rfl ?_
    refine l_move rfl rfl rfl ?_
    refine l_store_blks hw4 (.tail .head) (.zero (.zero (.zero (.zero (.zero .nil))))) rfl tz27 rfl rfl (by first | (simp [Value.oneCell']; done) | (intro u hu; simp only [List.mem_cons, List.not_mem_nil, or_false] at hu; rcases hu with rfl | rfl | rfl | rfl | rfl <;> first | rfl | assumption)) (fun w5 hw5 => ?_)
    try clear hw4
    refine l_assign rfl rfl rfl ?_
    refine l_assign rfl rfl rfl ?_
    refine l_nil ?_
    refine e_then ?_
    refine c_keep [2, 3, 4] (.cons rfl (.cons rfl (.cons rfl .nil))) ?_
    refine c_ret ?_
    refine e_then_ret ?_
    refine e_doneN Try.results12 (.cell rfl (load_agg_run hw5 mem1 Try.underlying27 rfl tz27 (.take (.take (.take (.take (.take .nil)))))) (.tmp rfl (.tmp rfl .nil))) rfl ?_
    refine ⟨_, rfl, ?_⟩
    have hw6 := St.del (.tail .head) hw5
    try clear hw5
    have hw7 := St.del .head hw6
    try clear hw6
    have hrr : ReadR t false 0 [] [] 0 p e := by
      cases hR with
      | long h => exact .long h
      | form h => exact h
      | ok _ _ => exact absurd rfl hc0
    exact ⟨_, _, _, _, _, _, _, rfl, .err hrr hc0, hw7.grows⟩
  · skip
    refine c_skip ?_
    refine e_then ?_
    refine c_keep [2, 5] (.cons rfl (.cons rfl .nil)) ?_
    refine c_seq ?_
    refine c_region ?_
    have he0 : e = 0 := by omega
    obtain ⟨hp0, hRC⟩ : p = 0 ∧ RC t ng wd W F en E true := by
      cases hR with
      | long _ => cases he0
      | form _ => cases he0
      | ok _ hc => exact ⟨rfl, hc⟩
    have hl1024 : t.length ≤ 1024 := by
      cases hR with
      | long _ => cases he0
      | form _ => cases he0
      | ok h _ => exact h
    obtain ⟨ng', hRd, hng⟩ := hRC.read hl1024
    obtain ⟨hdg, hWl, hFl, hx1, hx2, _, _⟩ := hRd.facts
    have hEd := hRC.digs
    have hEl : E.length ≤ 1099511627776 := by
      have := hRC.elen
      omega
    obtain ⟨L, hLe⟩ : ∃ L, L = skip0 (W ++ F) := ⟨_, rfl⟩
    have hLl := skip0_le (W ++ F)
    rw [← hLe, List.length_append] at hLl
    have hdL : ∀ j, j < L.length → isD (L.getD j 0) := fun j hj => hdg _ (skip0_mem (hLe ▸ getD_mem hj))
    refine l_field fo69_0 rfl rfl rfl ?_
    refine l_load_blk hw4 mem0 rfl rfl Try.underlying4 rfl rfl rfl ?_
    refine l_field fo69_1 rfl rfl rfl ?_
    refine l_load_blk hw4 mem0 rfl rfl Try.underlying3 rfl rfl rfl ?_
    refine l_buildS rfl rfl pl27 ta27 (.one rfl rfl (by first | rfl | assumption) .zero (.one rfl rfl (by first | rfl | assumption) (.succ .zero) .nil)) ?_
    refine l_alloc hw4 ta27 rfl rfl (fun b4_5 w8 hw8 => ?_)
    try clear hw4
    refine l_store_blks hw8 .head (.zero (.zero (.zero (.zero (.zero .nil))))) rfl tz27 rfl rfl (by first | (simp [Value.oneCell']; done) | (intro u hu; simp only [List.mem_cons, List.not_mem_nil, or_false] at hu; rcases hu with rfl | rfl | rfl | rfl | rfl <;> first | rfl | assumption)) (fun w9 hw9 => ?_)
    try clear hw8
    refine l_nil ?_
    refine e_then ?_
    refine c_keep [2, 5, 8] (.cons rfl (.cons rfl (.cons rfl .nil))) ?_
    refine c_seq ?_
    refine c_region ?_
    refine l_load_agg hw9 mem1 rfl rfl Try.underlying69 rfl tz69 rfl (.take (.take (.take (.take (.take (.take .nil)))))) ?_
    refine l_call rfl rfl Try.func30 rfl rfl (.cons rfl .nil) (all8R ng wd W F en E (by omega) (by omega) w9) ?_
    rintro _ w10 ⟨rfl, hG⟩
    have hw10 := hG _ _ _ _ hw9
    try clear hG hw9
    simp only [List.cons_append, List.nil_append] at hw10
    refine l_turn (s := 30) (v' := str L) rfl (by rw [hLe]) ?_
    refine l_assign rfl rfl rfl ?_
    refine l_nil ?_
    refine e_then ?_
    refine c_keep [2, 5, 8, 9] (.cons rfl (.cons rfl (.cons rfl (.cons rfl .nil)))) ?_
    refine c_seq ?_
    refine c_seq ?_
    refine c_region ?_
    refine l_field fo69_1 rfl rfl rfl ?_
    refine l_load_blk hw10 mem1 rfl rfl Try.underlying3 rfl rfl rfl ?_
    refine l_neq rfl rfl rfl rfl ?_
    refine l_move rfl rfl rfl ?_
    apply l_or 2 [2, 5, 8, 9] rfl rfl (.cons rfl (.cons rfl (.cons rfl (.cons rfl (.cons rfl .nil))))) rfl rfl (fun _ => rfl) rfl rfl rfl
    · intro hg6_4
      refine l_move rfl rfl rfl ?_
      refine l_eqls rfl rfl rfl rfl ?_
      refine l_nil ?_
      exact e_stays rfl (.cons rfl (congrArg Value.bool (decide_eq_false hg6_4).symm) (.cons rfl rfl (.cons rfl rfl (.cons rfl rfl (.cons rfl rfl .nil)))))
    refine l_nil ?_
    refine e_then ?_
    refine c_keep [2, 5, 8, 9, 37] (.cons rfl (.cons rfl (.cons rfl (.cons rfl (.cons rfl .nil))))) ?_
    first | refine c_cond rfl (fun hc1 => ?_) (fun hc1 => ?_) | refine c_condb rfl (fun hc1 => ?_) (fun hc1 => ?_)
    · skip
      refine c_seq ?_
      refine c_region ?_
      refine l_load_agg hw10 mem0 rfl rfl Try.underlying27 rfl tz27 rfl (.take (.take (.take (.take (.take .nil))))) ?_
      refine l_store_blks hw10 (.tail (.tail .head)) (.zero (.zero (.zero (.zero (.zero .nil))))) rfl tz27 rfl rfl (by first | (simp [Value.oneCell']; done) | (intro u hu; simp only [List.mem_cons, List.not_mem_nil, or_false] at hu; rcases hu with rfl | rfl | rfl | rfl | rfl <;> first | rfl | assumption)) (fun w11 hw11 => ?_)
      try clear hw10
      refine l_assign rfl rfl rfl ?_
      refine l_assign rfl rfl rfl ?_
      refine l_nil ?_
      refine e_then ?_
      refine c_keep [2, 3, 4] (.cons rfl (.cons rfl (.cons rfl .nil))) ?_
      refine c_ret ?_
      refine e_then_ret ?_
      refine e_doneN Try.results12 (.cell rfl (load_agg_run hw11 mem2 Try.underlying27 rfl tz27 (.take (.take (.take (.take (.take .nil)))))) (.tmp rfl (.tmp rfl .nil))) rfl ?_
      refine ⟨_, rfl, ?_⟩
      have hw12 := St.del (.tail (.tail .head)) hw11
      try clear hw11
      have hw13 := St.del (.tail .head) hw12
      try clear hw12
      have hw14 := St.del .head hw13
      try clear hw13
      subst hng
      exact ⟨_, _, _, _, _, _, _, rfl, .nil hRd (hc1.imp id fun h => by rw [← hLe]; exact h), hw14.grows⟩
    · skip
      refine c_skip ?_
      refine e_then ?_
      refine c_keep [2, 5, 8, 9] (.cons rfl (.cons rfl (.cons rfl (.cons rfl .nil)))) ?_
      refine c_seq ?_
      refine c_region ?_
      have hwd : wd = 0 := Classical.not_not.1 (fun h => hc1 (.inl h))
      have hL0 : 0 < L.length := ne_len (fun h => hc1 (.inr h))
      refine l_assign rfl rfl rfl ?_
      refine l_nil ?_
      refine e_then ?_
      refine c_cutk (ι := Nat) (fun (n : Nat) (w' : World) => St w w.heap.size None' ([As.blk b4_5 27 [.bool ng, .int .i64 wd, .int .u64 0, .int .i64 0, .bool false], As.blk b1_6 69 [.bool ng, .int .i64 wd, str W, str F, .bool en, str E], As.blk b0_0 27 [.bool false, .int .i64 0, .int .u64 0, .int .i64 0, .bool false]]) w' ∧ n = L.length - 19) (fun (n : Nat) => [(10, .int .i64 (n : Int))]) [2, 5, 8, 9] (.cons rfl (.cons rfl (.cons rfl (.cons rfl .nil)))) ?_ ?_
      · skip
        refine c_seq ?_
        refine c_region ?_
        refine l_move rfl rfl rfl ?_
        refine l_lenstr rfl rfl Try.underlying9 rfl ?_
        refine l_gtr rfl rfl rfl rfl ?_
        refine l_nil ?_
        refine e_then ?_
        refine c_keep [2, 5, 8, 9, 10, 41] (.cons rfl (.cons rfl (.cons rfl (.cons rfl (.cons rfl (.cons rfl .nil)))))) ?_
        first | refine c_cond rfl (fun hc2 => ?_) (fun hc2 => ?_) | refine c_condb rfl (fun hc2 => ?_) (fun hc2 => ?_)
        · skip
          refine c_region ?_
          refine l_move rfl rfl rfl ?_
          refine l_lenstr rfl rfl Try.underlying9 rfl ?_
          refine l_sub rfl rfl rfl rfl (w_i64 (by omega)) ?_
          refine l_assign rfl rfl rfl ?_
          refine l_nil ?_
          refine e_meetk (L.length - 19) ?_ (.cons rfl (.cons rfl (.cons rfl (.cons rfl .nil)))) ?_
          · exact ⟨hw10, rfl⟩
          · exact (.cons rfl (by first | rfl | (refine congrArg (Value.int _) ?_; omega)) .nil)
        · skip
          refine c_skip ?_
          refine e_meetk (0) ?_ (.cons rfl (.cons rfl (.cons rfl (.cons rfl .nil)))) ?_
          · exact ⟨hw10, by omega⟩
          · exact (.cons rfl (by first | rfl | (refine congrArg (Value.int _) ?_; omega)) .nil)
      rintro n w15 ⟨hw15, hn⟩
      show RunC P _ _ _ (_ :: _) _
      refine c_seq ?_
      refine c_region ?_
      refine l_move rfl rfl rfl ?_
      refine l_move rfl rfl rfl ?_
      refine l_lenstr rfl rfl Try.underlying9 rfl ?_
      refine l_move rfl rfl rfl ?_
      refine l_sub rfl rfl rfl rfl (w_i64 (by omega)) ?_
      refine l_slices (l := 0) (h := L.length - n) rfl rfl Try.underlying9 rfl rfl rfl (by first | rfl | (simp; done) | (simp; omega)) (by first | rfl | (simp; done) | (simp; omega)) (by omega) (by first | omega | (simp; omega) | (simp; done)) ?_
      refine l_turn (s := 50) (v' := str (L.take (L.length - n))) rfl (by rw [List.drop_zero]) ?_
      refine l_assign rfl rfl rfl ?_
      refine l_nil ?_
      refine e_then ?_
      refine c_keep [2, 5, 8, 9, 10, 11] (.cons rfl (.cons rfl (.cons rfl (.cons rfl (.cons rfl (.cons rfl .nil)))))) ?_
      refine c_seq ?_
      refine c_region ?_
      refine l_move rfl rfl rfl ?_
      refine v_tobytes hw15 rfl rfl Try.underlying9 Try.underlying22 Try.underlying5 rfl (fun v12_1 w16 hw16 => ?_)
      try clear hw15
      refine l_call rfl rfl Try.func31 rfl rfl (.cons rfl .nil) (value4 _ (L.take (L.length - n)) (digs_take hdL _) (by rw [List.length_take]; omega) (by rw [List.length_take]; omega) w16 (hw16.ii mem0)) ?_
      rintro _ w17 ⟨rfl, hG⟩
      have hw17 := hG _ _ _ _ hw16
      try clear hG hw16
      simp only [List.cons_append, List.nil_append] at hw17
      refine l_move rfl rfl rfl ?_
      refine l_extract rfl rfl rfl rfl ?_
      refine l_extract rfl rfl rfl rfl ?_
      refine l_field fo27_2 rfl rfl rfl ?_
      refine l_store_blk hw17 (.tail .head) (by repeat (first | exact .zero | apply SetAt.succ)) rfl tz25 rfl rfl (by first | rfl | assumption) (fun w18 hw18 => ?_)
      try clear hw17
      refine l_nil ?_
      refine e_then ?_
      refine c_keep [2, 5, 8, 9, 10, 11] (.cons rfl (.cons rfl (.cons rfl (.cons rfl (.cons rfl (.cons rfl .nil)))))) ?_
      refine c_seq ?_
      have hw19 := hw18.drewn
      try clear hw18
      refine c_any (n := 10) [false, false, false, false, false, false, false, false, false, false] (fun wS => (As.blk b1_6 69 [.bool ng, .int .i64 wd, str W, str F, .bool en, str E]).ok wS) (by kernel_rfl) rfl rfl ?_
      apply a_take (L' := [true, false, false, false, false, false, false, false, false, false]) 0 rfl (by kernel_rfl) (by kernel_rfl) (by kernel_rfl) rfl rfl rfl rfl rfl (hw19.ok mem2)
      · intro wS sS
        refine l_load_agg (blk_st sS) mem0 rfl rfl Try.underlying69 rfl tz69 rfl (.take (.take (.take (.take (.take (.take .nil)))))) ?_
        refine l_nil ?_
        exact e_got rfl
      apply a_take (L' := [true, false, true, false, false, false, false, false, false, false]) 2 rfl (by kernel_rfl) (by kernel_rfl) (by kernel_rfl) rfl rfl rfl rfl rfl (hw19.ok mem2)
      · intro wS sS
        refine l_field fo69_3 rfl rfl rfl ?_
        refine l_nil ?_
        exact e_got rfl
      apply a_take (L' := [true, false, true, true, false, false, false, false, false, false]) 3 rfl (by kernel_rfl) (by kernel_rfl) (by kernel_rfl) rfl rfl rfl rfl rfl (hw19.ok mem2)
      · intro wS sS
        refine l_load_blk (blk_st sS) mem0 rfl rfl Try.underlying9 rfl rfl rfl ?_
        refine l_nil ?_
        exact e_got rfl
      apply a_take (L' := [true, false, true, true, false, false, true, false, false, false]) 6 rfl (by kernel_rfl) (by kernel_rfl) (by kernel_rfl) rfl rfl rfl rfl rfl (hw19.ok mem2)
      · intro wS sS
        refine l_move rfl rfl rfl ?_
        refine l_nil ?_
        exact e_got rfl
      refine a_two (L' := [true, true, true, true, false, false, true, false, false, false]) (L'' := [true, false, true, true, true, false, true, false, false, false]) 1 4 (by kernel_rfl) rfl rfl rfl rfl ?_ ?_
      · skip
        refine l_call rfl rfl Try.func32 rfl rfl (.cons rfl .nil) (expo8 ng wd W F en E hEd hEl w18.drew) ?_
        rintro _ w20 ⟨rfl, hG⟩
        have hw20 := hG _ _ _ _ hw19
        try clear hG hw19
        simp only [List.cons_append, List.nil_append] at hw20
        refine l_nil ?_
        refine e_any (hw20.ok mem2) ?_
        refine a_one (L' := [true, true, true, true, true, false, true, false, false, false]) 4 (by kernel_rfl) rfl rfl ?_
        refine l_lenstr rfl rfl Try.underlying9 rfl ?_
        refine l_nil ?_
        refine e_any (hw20.ok mem2) ?_
        apply a_take (L' := [true, true, true, true, true, true, true, false, false, false]) 5 rfl (by kernel_rfl) (by kernel_rfl) (by kernel_rfl) rfl rfl rfl rfl rfl (hw20.ok mem2)
        · intro wS sS
          refine l_sub rfl rfl rfl rfl (w_i64 (by omega)) ?_
          refine l_nil ?_
          exact e_got rfl
        apply a_take (L' := [true, true, true, true, true, true, true, true, false, false]) 7 rfl (by kernel_rfl) (by kernel_rfl) (by kernel_rfl) rfl rfl rfl rfl rfl (hw20.ok mem2)
        · intro wS sS
          refine l_add rfl rfl rfl rfl (w_i64 (by omega)) ?_
          refine l_nil ?_
          exact e_got rfl
        apply a_take (L' := [true, true, true, true, true, true, true, true, true, false]) 8 rfl (by kernel_rfl) (by kernel_rfl) (by kernel_rfl) rfl rfl rfl rfl rfl (hw20.ok mem2)
        · intro wS sS
          refine l_field fo27_3 rfl rfl rfl ?_
          refine l_nil ?_
          exact e_got rfl
        refine a_one (L' := [true, true, true, true, true, true, true, true, true, true]) 9 (by kernel_rfl) rfl rfl ?_
        refine l_store_blk hw20 (.tail .head) (by repeat (first | exact .zero | apply SetAt.succ)) rfl tz3 rfl rfl (by first | rfl | assumption) (fun w21 hw21 => ?_)
        try clear hw20
        refine l_nil ?_
        refine e_any (hw21.ok mem2) ?_
        refine a_done (by kernel_rfl) ?_
        refine e_then ?_
        refine c_keep [2, 8, 9, 11] (.cons rfl (.cons rfl (.cons rfl (.cons rfl .nil)))) ?_
        refine c_seq ?_
        refine c_seq ?_
        refine c_region ?_
        have hw22 := St.del .head hw21
        try clear hw21
        refine l_move rfl rfl rfl ?_
        refine l_lenstr rfl rfl Try.underlying9 rfl ?_
        have htk : (L.take (L.length - n)).length = L.length - n := by rw [List.length_take]; omega
        refine l_turn (s := 68) (v' := .int .i64 ((L.length - n + 0 : Nat) : Int)) rfl (by rw [htk]; rfl) ?_
        refine l_assign rfl rfl rfl ?_
        refine l_nil ?_
        refine e_then ?_
        refine c_keep [2, 8, 9, 12] (.cons rfl (.cons rfl (.cons rfl (.cons rfl .nil)))) ?_
        refine c_block ?_
        refine c_loopk (ι := Nat × Bool) (fun (z0 : Nat × Bool) => match z0 with | ⟨k, mb⟩ => n - k) (fun (z0 : Nat × Bool) (w' : World) => match z0 with | ⟨k, mb⟩ => St w w.heap.size None' ([As.blk b4_5 27 [.bool ng, .int .i64 wd, .int .u64 (pv (L.take (L.length - n))), .int .i64 (expS en E - (F.length : Int) + (n : Int)), .bool mb], As.blk b1_6 69 [.bool ng, .int .i64 wd, str W, str F, .bool en, str E], As.blk b0_0 27 [.bool false, .int .i64 0, .int .u64 0, .int .i64 0, .bool false]]) w' ∧ k ≤ n ∧ mb = ((L.drop (L.length - n)).take k).any (fun c => !decide (c = 48))) (fun (z0 : Nat × Bool) => match z0 with | ⟨k, mb⟩ => [(12, .int .i64 ((L.length - n + k : Nat) : Int))]) [2, 8, 9] (0, false) ?_ (.cons rfl (.cons rfl (.cons rfl .nil))) ?_ ?_
        · exact ⟨hw22, by omega, rfl⟩
        · exact (.cons rfl (by first | rfl | (refine congrArg (Value.int _) ?_; omega)) .nil)
        rintro ⟨k, mb⟩ w23 ⟨hw23, hk, hmb⟩
        show RunC P _ _ _ (_ :: _) _
        refine c_seq ?_
        refine c_seq ?_
        refine c_region ?_
        refine l_move rfl rfl rfl ?_
        refine l_move rfl rfl rfl ?_
        refine l_lenstr rfl rfl Try.underlying9 rfl ?_
        refine l_lss rfl rfl rfl rfl ?_
        refine l_nil ?_
        refine e_then ?_
        refine c_keep [2, 8, 9, 12, 72] (.cons rfl (.cons rfl (.cons rfl (.cons rfl (.cons rfl .nil))))) ?_
        first | refine c_cond rfl (fun hc3 => ?_) (fun hc3 => ?_) | refine c_condb rfl (fun hc3 => ?_) (fun hc3 => ?_)
        · skip
          refine c_skip ?_
          refine e_then ?_
          refine c_keep [2, 8, 9, 12] (.cons rfl (.cons rfl (.cons rfl (.cons rfl .nil)))) ?_
          refine c_seq ?_
          refine c_block ?_
          refine c_region ?_
          refine l_field fo27_4 rfl rfl rfl ?_
          refine l_load_blk hw23 mem0 rfl rfl Try.underlying4 rfl rfl rfl ?_
          refine l_move rfl rfl rfl ?_
          refine l_turn (s := 77) (v' := .bool (decide (mb = true))) rfl (by cases mb <;> rfl) ?_
          apply l_or 4 [2, 8, 9, 12] rfl rfl (.cons rfl (.cons rfl (.cons rfl (.cons rfl (.cons rfl .nil))))) rfl rfl (fun _ => rfl) rfl rfl rfl
          · intro hg17_3
            refine l_move rfl rfl rfl ?_
            refine l_move rfl rfl rfl ?_
            refine v_gets (j := L.length - n + k) rfl rfl Try.underlying9 rfl rfl (by omega) (by first | omega | (simp; omega) | (simp; done)) (fun hb17_5 => ?_)
            refine l_neq rfl rfl rfl rfl ?_
            refine l_nil ?_
            exact e_stays rfl (.cons rfl (congrArg Value.bool (decide_eq_false hg17_3).symm) (.cons rfl rfl (.cons rfl rfl (.cons rfl rfl (.cons rfl rfl .nil)))))
          refine l_field fo27_4 rfl rfl rfl ?_
          refine l_store_blk hw23 .head (by repeat (first | exact .zero | apply SetAt.succ)) rfl tz4 rfl rfl (by first | rfl | assumption) (fun w24 hw24 => ?_)
          try clear hw23
          refine l_nil ?_
          refine e_blk ?_
          refine e_then ?_
          refine c_keep [2, 8, 9, 12] (.cons rfl (.cons rfl (.cons rfl (.cons rfl .nil)))) ?_
          refine c_region ?_
          refine l_move rfl rfl rfl ?_
          refine l_add rfl rfl rfl rfl (w_i64 (by omega)) ?_
          refine l_assign rfl rfl rfl ?_
          refine l_nil ?_
          refine e_againk (i := (k, mb)) (k + 1, decide (mb = true ∨ ¬ (((L.getD (L.length - n + k) 0).toNat : Int)) = 48)) ?_ ?_ (.cons rfl (.cons rfl (.cons rfl .nil))) ?_
          · first | omega | (simp; omega)
          · have htl : (L.drop (L.length - n)).length = n := by rw [List.length_drop]; omega
            refine ⟨hw24, by omega, ?_⟩
            rw [any_snoc _ _ (by omega), ← hmb, getD_drop]
            have e : (((L.getD (L.length - n + k) 0).toNat : Int) = 48) ↔ (L.getD (L.length - n + k) 0 = 48) := u8_eq (d := 48)
            generalize L.getD (L.length - n + k) 0 = cc at e ⊢
            by_cases h : cc = 48
            · have h2 := e.2 h
              simp [h]
            · have h2 : ¬ (cc.toNat : Int) = 48 := fun h3 => h (e.1 h3)
              rw [decide_eq_true (Or.inr h2), decide_eq_false h]
              simp
          · exact (.cons rfl (by first | rfl | (refine congrArg (Value.int _) ?_; omega)) .nil)
        · skip
          refine c_exit ?_
          refine e_then_exit ?_
          refine e_then_exit ?_
          refine e_blk_exit ?_
          refine e_then ?_
          refine c_keep [2, 8] (.cons rfl (.cons rfl .nil)) ?_
          refine c_seq ?_
          refine c_region ?_
          refine l_load_agg hw23 mem0 rfl rfl Try.underlying27 rfl tz27 rfl (.take (.take (.take (.take (.take .nil))))) ?_
          refine l_store_blks hw23 (.tail (.tail .head)) (.zero (.zero (.zero (.zero (.zero .nil))))) rfl tz27 rfl rfl (by first | (simp [Value.oneCell']; done) | (intro u hu; simp only [List.mem_cons, List.not_mem_nil, or_false] at hu; rcases hu with rfl | rfl | rfl | rfl | rfl <;> first | rfl | assumption)) (fun w25 hw25 => ?_)
          try clear hw23
          refine l_assign rfl rfl rfl ?_
          refine l_assign rfl rfl rfl ?_
          refine l_nil ?_
          refine e_then ?_
          refine c_keep [2, 3, 4] (.cons rfl (.cons rfl (.cons rfl .nil))) ?_
          refine c_ret ?_
          refine e_doneN Try.results12 (.cell rfl (load_agg_run hw25 mem2 Try.underlying27 rfl tz27 (.take (.take (.take (.take (.take .nil)))))) (.tmp rfl (.tmp rfl .nil))) rfl ?_
          refine ⟨_, rfl, ?_⟩
          have hw26 := St.del (.tail (.tail .head)) hw25
          try clear hw25
          have hw27 := St.del (.tail .head) hw26
          try clear hw26
          have hw28 := St.del .head hw27
          try clear hw27
          subst hwd
          have hng2 : ng = ng' := by rw [hng]; cases ng' <;> rfl
          obtain rfl : k = n := by omega
          rw [List.take_of_length_le (by rw [List.length_drop]; omega)] at hmb
          rw [hmb, hng2, hLe]
          rw [hLe] at hn
          exact ⟨_, _, _, _, _, _, _, rfl, .num hRd (fun h => by rw [← hLe] at h; rw [h] at hL0; simp at hL0) hn, hw28.grows⟩
      · skip
        refine l_lenstr rfl rfl Try.underlying9 rfl ?_
        refine l_nil ?_
        refine e_any (hw19.ok mem2) ?_
        refine a_one (L' := [true, true, true, true, true, false, true, false, false, false]) 1 (by kernel_rfl) rfl rfl ?_
        refine l_call rfl rfl Try.func32 rfl rfl (.cons rfl .nil) (expo8 ng wd W F en E hEd hEl w18.drew) ?_
        rintro _ w29 ⟨rfl, hG⟩
        have hw29 := hG _ _ _ _ hw19
        try clear hG hw19
        simp only [List.cons_append, List.nil_append] at hw29
        refine l_nil ?_
        refine e_any (hw29.ok mem2) ?_
        apply a_take (L' := [true, true, true, true, true, true, true, false, false, false]) 5 rfl (by kernel_rfl) (by kernel_rfl) (by kernel_rfl) rfl rfl rfl rfl rfl (hw29.ok mem2)
        · intro wS sS
          refine l_sub rfl rfl rfl rfl (w_i64 (by omega)) ?_
          refine l_nil ?_
          exact e_got rfl
        apply a_take (L' := [true, true, true, true, true, true, true, true, false, false]) 7 rfl (by kernel_rfl) (by kernel_rfl) (by kernel_rfl) rfl rfl rfl rfl rfl (hw29.ok mem2)
        · intro wS sS
          refine l_add rfl rfl rfl rfl (w_i64 (by omega)) ?_
          refine l_nil ?_
          exact e_got rfl
        apply a_take (L' := [true, true, true, true, true, true, true, true, true, false]) 8 rfl (by kernel_rfl) (by kernel_rfl) (by kernel_rfl) rfl rfl rfl rfl rfl (hw29.ok mem2)
        · intro wS sS
          refine l_field fo27_3 rfl rfl rfl ?_
          refine l_nil ?_
          exact e_got rfl
        refine a_one (L' := [true, true, true, true, true, true, true, true, true, true]) 9 (by kernel_rfl) rfl rfl ?_
        refine l_store_blk hw29 (.tail .head) (by repeat (first | exact .zero | apply SetAt.succ)) rfl tz3 rfl rfl (by first | rfl | assumption) (fun w30 hw30 => ?_)
        try clear hw29
        refine l_nil ?_
        refine e_any (hw30.ok mem2) ?_
        refine a_done (by kernel_rfl) ?_
        refine e_then ?_
        refine c_keep [2, 8, 9, 11] (.cons rfl (.cons rfl (.cons rfl (.cons rfl .nil)))) ?_
        refine c_seq ?_
        refine c_seq ?_
        refine c_region ?_
        have hw31 := St.del .head hw30
        try clear hw30
        refine l_move rfl rfl rfl ?_
        refine l_lenstr rfl rfl Try.underlying9 rfl ?_
        have htk : (L.take (L.length - n)).length = L.length - n := by rw [List.length_take]; omega
        refine l_turn (s := 68) (v' := .int .i64 ((L.length - n + 0 : Nat) : Int)) rfl (by rw [htk]; rfl) ?_
        refine l_assign rfl rfl rfl ?_
        refine l_nil ?_
        refine e_then ?_
        refine c_keep [2, 8, 9, 12] (.cons rfl (.cons rfl (.cons rfl (.cons rfl .nil)))) ?_
        refine c_block ?_
        refine c_loopk (ι := Nat × Bool) (fun (z0 : Nat × Bool) => match z0 with | ⟨k, mb⟩ => n - k) (fun (z0 : Nat × Bool) (w' : World) => match z0 with | ⟨k, mb⟩ => St w w.heap.size None' ([As.blk b4_5 27 [.bool ng, .int .i64 wd, .int .u64 (pv (L.take (L.length - n))), .int .i64 (expS en E - (F.length : Int) + (n : Int)), .bool mb], As.blk b1_6 69 [.bool ng, .int .i64 wd, str W, str F, .bool en, str E], As.blk b0_0 27 [.bool false, .int .i64 0, .int .u64 0, .int .i64 0, .bool false]]) w' ∧ k ≤ n ∧ mb = ((L.drop (L.length - n)).take k).any (fun c => !decide (c = 48))) (fun (z0 : Nat × Bool) => match z0 with | ⟨k, mb⟩ => [(12, .int .i64 ((L.length - n + k : Nat) : Int))]) [2, 8, 9] (0, false) ?_ (.cons rfl (.cons rfl (.cons rfl .nil))) ?_ ?_
        · exact ⟨hw31, by omega, rfl⟩
        · exact (.cons rfl (by first | rfl | (refine congrArg (Value.int _) ?_; omega)) .nil)
        rintro ⟨k, mb⟩ w32 ⟨hw32, hk, hmb⟩
        show RunC P _ _ _ (_ :: _) _
        refine c_seq ?_
        refine c_seq ?_
        refine c_region ?_
        refine l_move rfl rfl rfl ?_
        refine l_move rfl rfl rfl ?_
        refine l_lenstr rfl rfl Try.underlying9 rfl ?_
        refine l_lss rfl rfl rfl rfl ?_
        refine l_nil ?_
        refine e_then ?_
        refine c_keep [2, 8, 9, 12, 72] (.cons rfl (.cons rfl (.cons rfl (.cons rfl (.cons rfl .nil))))) ?_
        first | refine c_cond rfl (fun hc3 => ?_) (fun hc3 => ?_) | refine c_condb rfl (fun hc3 => ?_) (fun hc3 => ?_)
        · skip
          refine c_skip ?_
          refine e_then ?_
          refine c_keep [2, 8, 9, 12] (.cons rfl (.cons rfl (.cons rfl (.cons rfl .nil)))) ?_
          refine c_seq ?_
          refine c_block ?_
          refine c_region ?_
          refine l_field fo27_4 rfl rfl rfl ?_
          refine l_load_blk hw32 mem0 rfl rfl Try.underlying4 rfl rfl rfl ?_
          refine l_move rfl rfl rfl ?_
          refine l_turn (s := 77) (v' := .bool (decide (mb = true))) rfl (by cases mb <;> rfl) ?_
          apply l_or 4 [2, 8, 9, 12] rfl rfl (.cons rfl (.cons rfl (.cons rfl (.cons rfl (.cons rfl .nil))))) rfl rfl (fun _ => rfl) rfl rfl rfl
          · intro hg17_3
            refine l_move rfl rfl rfl ?_
            refine l_move rfl rfl rfl ?_
            refine v_gets (j := L.length - n + k) rfl rfl Try.underlying9 rfl rfl (by omega) (by first | omega | (simp; omega) | (simp; done)) (fun hb17_5 => ?_)
            refine l_neq rfl rfl rfl rfl ?_
            refine l_nil ?_
            exact e_stays rfl (.cons rfl (congrArg Value.bool (decide_eq_false hg17_3).symm) (.cons rfl rfl (.cons rfl rfl (.cons rfl rfl (.cons rfl rfl .nil)))))
          refine l_field fo27_4 rfl rfl rfl ?_
          refine l_store_blk hw32 .head (by repeat (first | exact .zero | apply SetAt.succ)) rfl tz4 rfl rfl (by first | rfl | assumption) (fun w33 hw33 => ?_)
          try clear hw32
          refine l_nil ?_
          refine e_blk ?_
          refine e_then ?_
          refine c_keep [2, 8, 9, 12] (.cons rfl (.cons rfl (.cons rfl (.cons rfl .nil)))) ?_
          refine c_region ?_
          refine l_move rfl rfl rfl ?_
          refine l_add rfl rfl rfl rfl (w_i64 (by omega)) ?_
          refine l_assign rfl rfl rfl ?_
          refine l_nil ?_
          refine e_againk (i := (k, mb)) (k + 1, decide (mb = true ∨ ¬ (((L.getD (L.length - n + k) 0).toNat : Int)) = 48)) ?_ ?_ (.cons rfl (.cons rfl (.cons rfl .nil))) ?_
          · first | omega | (simp; omega)
          · have htl : (L.drop (L.length - n)).length = n := by rw [List.length_drop]; omega
            refine ⟨hw33, by omega, ?_⟩
            rw [any_snoc _ _ (by omega), ← hmb, getD_drop]
            have e : (((L.getD (L.length - n + k) 0).toNat : Int) = 48) ↔ (L.getD (L.length - n + k) 0 = 48) := u8_eq (d := 48)
            generalize L.getD (L.length - n + k) 0 = cc at e ⊢
            by_cases h : cc = 48
            · have h2 := e.2 h
              simp [h]
            · have h2 : ¬ (cc.toNat : Int) = 48 := fun h3 => h (e.1 h3)
              rw [decide_eq_true (Or.inr h2), decide_eq_false h]
              simp
          · exact (.cons rfl (by first | rfl | (refine congrArg (Value.int _) ?_; omega)) .nil)
        · skip
          refine c_exit ?_
          refine e_then_exit ?_
          refine e_then_exit ?_
          refine e_blk_exit ?_
          refine e_then ?_
          refine c_keep [2, 8] (.cons rfl (.cons rfl .nil)) ?_
          refine c_seq ?_
          refine c_region ?_
          refine l_load_agg hw32 mem0 rfl rfl Try.underlying27 rfl tz27 rfl (.take (.take (.take (.take (.take .nil))))) ?_
          refine l_store_blks hw32 (.tail (.tail .head)) (.zero (.zero (.zero (.zero (.zero .nil))))) rfl tz27 rfl rfl (by first | (simp [Value.oneCell']; done) | (intro u hu; simp only [List.mem_cons, List.not_mem_nil, or_false] at hu; rcases hu with rfl | rfl | rfl | rfl | rfl <;> first | rfl | assumption)) (fun w34 hw34 => ?_)
          try clear hw32
          refine l_assign rfl rfl rfl ?_
          refine l_assign rfl rfl rfl ?_
          refine l_nil ?_
          refine e_then ?_
          refine c_keep [2, 3, 4] (.cons rfl (.cons rfl (.cons rfl .nil))) ?_
          refine c_ret ?_
          refine e_doneN Try.results12 (.cell rfl (load_agg_run hw34 mem2 Try.underlying27 rfl tz27 (.take (.take (.take (.take (.take .nil)))))) (.tmp rfl (.tmp rfl .nil))) rfl ?_
          refine ⟨_, rfl, ?_⟩
          have hw35 := St.del (.tail (.tail .head)) hw34
          try clear hw34
          have hw36 := St.del (.tail .head) hw35
          try clear hw35
          have hw37 := St.del .head hw36
          try clear hw36
          subst hwd
          have hng2 : ng = ng' := by rw [hng]; cases ng' <;> rfl
          obtain rfl : k = n := by omega
          rw [List.take_of_length_le (by rw [List.length_drop]; omega)] at hmb
          rw [hmb, hng2, hLe]
          rw [hLe] at hn
          exact ⟨_, _, _, _, _, _, _, rfl, .num hRd (fun h => by rw [← hLe] at h; rw [h] at hL0; simp at hL0) hn, hw37.grows⟩
end Go.Proofs.Ytjkaahnadaapoaa.W
