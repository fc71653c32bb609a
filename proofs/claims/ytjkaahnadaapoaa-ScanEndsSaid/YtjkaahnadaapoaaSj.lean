/- walks of ScanPlaces, ScanEnds -/
import Derived.Test.YtjkaahnadaapoaaSi
set_option linter.unusedVariables false
set_option linter.unusedSimpArgs false
set_option maxRecDepth 10000
namespace Go.Proofs.Ytjkaahnadaapoaa.W
open Go.Vc Go.RowKit

theorem ScanR.place0 {t : L8} {ng more : Bool} {wd man x p e : Int} (h : ScanR t ng wd man x more p e) (he : e = 0) : p = 0 := by
  cases h with
  | err _ h => exact absurd he h
  | nil _ _ => rfl
  | num _ _ _ => rfl
/-- a text that is no number's -/
def Bad (t : L8) (n : Nat) : Prop := n ≤ t.length ∧ ¬ st t n = 19 ∧ (n < t.length → st t (n + 1) = 19) ∧ acc (go 0 t) = false
theorem ScanR.bad {t : L8} {ng more : Bool} {wd man x p e : Int} (h : ScanR t ng wd man x more p e) (he : ¬ e = 0) (hl : t.length ≤ 1024) : ng = false ∧ wd = 0 ∧ man = 0 ∧ x = 0 ∧ more = false ∧ e = 81 ∧ ∃ n : Nat, p = n ∧ Bad t n := by
  cases h with
  | err hr _ =>
    cases hr with
    | long h => omega
    | form _ hc =>
      obtain ⟨n, rfl, h1, h2, h3, h4⟩ := hc.state
      exact ⟨rfl, rfl, rfl, rfl, rfl, rfl, n, rfl, h1, h2, h3, h4.symm⟩
    | ok _ _ => exact absurd rfl he
  | nil _ _ => exact absurd rfl he
  | num _ _ _ => exact absurd rfl he
theorem ScanR.good {t : L8} {ng more : Bool} {wd man x p e : Int} (h : ScanR t ng wd man x more p e) (he : e = 0) : acc (go 0 t) = true := by
  have key : ∀ {ng : Bool} {wd x p : Int} {W F : L8}, ReadR t ng wd W F x p 0 → acc (go 0 t) = true := fun hr => by
    cases hr with
    | ok _ hc => obtain ⟨_, _, _, _, _, h⟩ := hc.state; exact h.symm
  cases h with
  | err _ h => exact absurd he h
  | nil hr _ => exact key hr
  | num hr _ _ => exact key hr
theorem st_take {t : L8} {n m : Nat} (h : m ≤ n) : st (t.take n) m = st t m := by unfold st; rw [List.take_take, Nat.min_eq_left h]
theorem st_app {t u : L8} {m : Nat} (h : m ≤ t.length) : st (t ++ u) m = st t m := by unfold st; rw [List.take_append_of_le_length h]
/-- the beginning up to the place: it is one, or the place is its end -/
theorem Bad.take {t : L8} {n m : Nat} (h : Bad t n) (k : Bad (t.take n) m) : m = n := by
  have hl : (t.take n).length = n := by rw [List.length_take]; have := h.1; omega
  have h1 := k.1
  rw [hl] at h1
  rcases Nat.lt_or_ge m n with h2 | h2
  · have h3 := k.2.2.1 (by omega)
    rw [st_take (by omega)] at h3
    exact absurd (st_mono h3 (by omega)) h.2.1
  · omega
/-- with anything behind the place: none, and the same place -/
theorem Bad.more {t u : L8} {n : Nat} (h : Bad t n) (hn : n < t.length) {ng more : Bool} {wd man x p e : Int} (hs : ScanR (t.take (n + 1) ++ u) ng wd man x more p e) (hl : (t.take (n + 1) ++ u).length ≤ 1024) : e = 81 ∧ p = n := by
  have hlt : (t.take (n + 1)).length = n + 1 := by rw [List.length_take]; omega
  have s1 : ¬ st (t.take (n + 1) ++ u) n = 19 := by rw [st_app (by omega), st_take (by omega)]; exact h.2.1
  have s2 : st (t.take (n + 1) ++ u) (n + 1) = 19 := by rw [st_app (by omega), st_take (by omega)]; exact h.2.2.1 hn
  have he : ¬ e = 0 := fun he => by
    have := hs.good he
    rw [st_dead s2] at this
    exact absurd this (by decide)
  obtain ⟨_, _, _, _, _, h81, m, rfl, hm⟩ := hs.bad he hl
  refine ⟨h81, ?_⟩
  have : m = n := by
    rcases Nat.lt_trichotomy m n with h2 | h2 | h2
    · exact absurd (st_mono (hm.2.2.1 (by rw [List.length_append]; omega)) (by omega)) s1
    · exact h2
    · exact absurd (st_mono s2 (by omega)) hm.2.1
  rw [this]
theorem getD_set8 (l : L8) (i k : Nat) (x : UInt8) (h : i < l.length) : (l.set i x).getD k 0 = if i = k then x else l.getD k 0 := by
  simp only [List.getD, List.getElem?_set]
  split
  · rename_i e; subst e; simp [h]
  · rfl
theorem rep_of {o : L8} {n : Nat} {x : UInt8} (hl : o.length = n) (h : ∀ j, j < n → o.getD j 0 = x) : o = List.replicate n x := List.eq_replicate_iff.2 ⟨hl, fun b hb => by
  obtain ⟨j, hj, rfl⟩ := List.getElem_of_mem hb
  have := h j (by omega)
  simpa [List.getD, hj] using this⟩
def long1 : L8 := (List.replicate 1025 48).set 1023 55
theorem end1 : scanF (long1.take 1024) = (false, 0, 7, 0, false, 0, 0) := by decide +kernel
theorem end2 : scanF long1 = (false, 0, 0, 0, false, 0, 80) := by decide +kernel
theorem end3 : scanF ((long1.set 5 120).take 1024) = (false, 0, 0, 0, false, 5, 81) := by decide +kernel
theorem end4 : scanF [49, 101, 57, 57, 57, 57, 57] = (false, 0, 1, 99999, false, 0, 0) := by decide +kernel
theorem end5 : scanF [49, 69, 45, 48, 48, 48, 49, 48, 48, 48, 48, 48] = (false, 0, 1, -99999, false, 0, 0) := by decide +kernel
theorem end6 : scanF [45, 73, 110, 70, 105, 78, 105, 84, 121] = (true, 1, 0, 0, false, 0, 0) := by decide +kernel
theorem end7 : scanF [45, 78, 65, 78] = (false, 2, 0, 0, false, 0, 0) := by decide +kernel

theorem scanPlacesL (v u : Value) (l k : L8) (w : World) (hv : IB w v l) (hu : IB w u k) :
    CallsV P 5 [v, u] w fun r w' => r = .bool true ∧ Grow w w' [] := by
  refine enterW Try.func5 rfl Try.ntmps5 rfl ?_
  have hw0 := St.start w
  refine c_seq ?_
  refine c_region ?_
  refine l_assign rfl rfl rfl ?_
  refine l_nil ?_
  refine e_then ?_
  refine c_keep [0, 1] (.cons rfl (.cons rfl .nil)) ?_
  refine c_seq ?_
  refine c_region ?_
  refine l_move rfl rfl rfl ?_
  refine l_call rfl rfl Try.func9 rfl rfl (.cons rfl (.cons rfl .nil)) (cutK v l 300 w hv) ?_
  rintro va _ ⟨hv1, rfl⟩
  have lt1 : (l.take 300).length ≤ 300 := by rw [List.length_take]; omega
  generalize l.take 300 = t at hv1 lt1
  refine l_assign rfl rfl rfl ?_
  refine l_nil ?_
  refine e_then ?_
  refine c_keep [0, 1] (.cons rfl (.cons rfl .nil)) ?_
  refine c_seq ?_
  refine c_region ?_
  refine l_move rfl rfl rfl ?_
  refine l_call rfl rfl Try.func9 rfl rfl (.cons rfl (.cons rfl .nil)) (cutK u k 300 w hu) ?_
  rintro ua _ ⟨hu1, rfl⟩
  have lm1 : (k.take 300).length ≤ 300 := by rw [List.length_take]; omega
  generalize k.take 300 = m at hu1 lm1
  refine l_assign rfl rfl rfl ?_
  refine l_nil ?_
  refine e_then ?_
  refine c_keep [0, 1] (.cons rfl (.cons rfl .nil)) ?_
  refine c_seq ?_
  refine c_region ?_
  refine l_move rfl rfl rfl ?_
  refine l_call rfl rfl Try.func11 rfl rfl (.cons rfl .nil) (scanS _ t (by omega) w (hw0.iarg hv1)) ?_
  rintro _ w1 ⟨ng1, wd1, man1, x1, more1, p1, e1, rfl, hSng1, hG⟩
  have hw1 := hG _ _ _ _ hw0
  try clear hG hw0
  simp only [List.cons_append, List.nil_append] at hw1
  refine l_move rfl rfl rfl ?_
  refine l_extract rfl rfl rfl rfl ?_
  refine l_extract rfl rfl rfl rfl ?_
  refine l_extract rfl rfl rfl rfl ?_
  refine l_alloc hw1 ta27 rfl rfl (fun b3_6 w2 hw2 => ?_)
  try clear hw1
  refine l_store_blks hw2 .head (.zero (.zero (.zero (.zero (.zero .nil))))) rfl tz27 rfl rfl (by first | (simp [Value.oneCell']; done) | (intro u hu; simp only [List.mem_cons, List.not_mem_nil, or_false] at hu; rcases hu with rfl | rfl | rfl | rfl | rfl <;> first | rfl | assumption)) (fun w3 hw3 => ?_)
  try clear hw2
  refine l_assign rfl rfl rfl ?_
  refine l_assign rfl rfl rfl ?_
  refine l_nil ?_
  refine e_then ?_
  refine c_keep [0, 1, 5, 6, 7] (.cons rfl (.cons rfl (.cons rfl (.cons rfl (.cons rfl .nil))))) ?_
  refine c_seq ?_
  refine c_seq ?_
  refine c_region ?_
  refine l_move rfl rfl rfl ?_
  refine l_callp rfl rfl Try.func13 rfl rfl (.cons rfl .nil) (numL _ hSng1.ebd _) ?_
  refine l_eql rfl rfl rfl rfl ?_
  refine l_nil ?_
  refine e_then ?_
  refine c_keep [0, 1, 5, 6, 7, 27] (.cons rfl (.cons rfl (.cons rfl (.cons rfl (.cons rfl (.cons rfl .nil)))))) ?_
  first | refine c_cond rfl (fun hc0 => ?_) (fun hc0 => ?_) | refine c_condb rfl (fun hc0 => ?_) (fun hc0 => ?_)
  · skip
    refine c_seq ?_
    refine c_region ?_
    refine l_move rfl rfl rfl ?_
    refine l_eql rfl rfl rfl rfl ?_
    refine l_turn (s := 29) (v' := .bool true) rfl (by rw [decide_eq_true (hSng1.place0 (by assumption))]) ?_
    refine l_move rfl rfl rfl ?_
    refine l_call rfl rfl Try.func15 rfl rfl .nil (wakesL w3) ?_
    rintro _ w4 ⟨rfl, hG⟩
    have hw4 := hG _ _ _ _ hw3
    try clear hG hw3
    simp only [List.cons_append, List.nil_append] at hw4
    refine l_turn (s := 31) (v' := .bool true) rfl (by rfl) ?_
    refine l_pick_t rfl rfl rfl rfl ?_
    refine l_assign rfl rfl rfl ?_
    refine l_nil ?_
    refine e_then ?_
    refine c_keep [4] (.cons rfl .nil) ?_
    refine c_ret ?_
    refine e_then_ret ?_
    refine e_done1 Try.results5 rfl ?_
    refine ⟨_, rfl, ?_⟩
    have hw5 := St.del .head hw4
    try clear hw4
    exact ⟨rfl, hw5.grows⟩
  · skip
    refine c_skip ?_
    refine e_then ?_
    refine c_keep [0, 1, 5, 6, 7] (.cons rfl (.cons rfl (.cons rfl (.cons rfl (.cons rfl .nil))))) ?_
    refine c_seq ?_
    refine c_seq ?_
    refine c_region ?_
    obtain ⟨rfl, rfl, rfl, rfl, rfl, rfl, n, rfl, hbad⟩ := hSng1.bad (by assumption) (by omega)
    have hn0 := hbad.1
    refine l_move rfl rfl rfl ?_
    refine l_callp rfl rfl Try.func13 rfl rfl (.cons rfl .nil) (numL _ hSng1.ebd _) ?_
    refine l_neq rfl rfl rfl rfl ?_
    refine l_turn (s := 35) (v' := .bool false) rfl (by rfl) ?_
    refine l_move rfl rfl rfl ?_
    refine l_load_agg hw3 mem0 rfl rfl Try.underlying27 rfl tz27 rfl (.take (.take (.take (.take (.take .nil))))) ?_
    refine l_buildS rfl rfl pl27 ta27 .nil ?_
    refine l_neqA rfl rfl fl27 rfl rfl (.bool rfl rfl (.int rfl rfl (.int rfl rfl (.int rfl rfl (.bool rfl rfl .nil))))) ?_
    refine l_turn (s := 39) (v' := .bool false) rfl (by simp) ?_
    refine l_pick_f rfl rfl rfl rfl ?_
    refine l_move rfl rfl rfl ?_
    refine l_move rfl rfl rfl ?_
    refine l_lss rfl rfl rfl rfl ?_
    refine l_turn (s := 43) (v' := .bool false) rfl (by rw [decide_eq_false (by omega)]) ?_
    refine l_pick_f rfl rfl rfl rfl ?_
    refine l_move rfl rfl rfl ?_
    refine l_move rfl rfl rfl ?_
    refine l_move rfl rfl rfl ?_
    refine v_lenb rfl rfl Try.underlying22 rfl (by first | exact hw3.ibl mem0 | exact hw3.iarg hv | exact hw3.iarg hu | exact hw3.iarg hv1 | exact hw3.iarg hu1 | assumption) ?_
    refine l_gtr rfl rfl rfl rfl ?_
    refine l_turn (s := 49) (v' := .bool false) rfl (by rw [decide_eq_false (by omega)]) ?_
    refine l_pick_f rfl rfl rfl rfl ?_
    refine l_nil ?_
    refine e_then ?_
    refine c_keep [0, 1, 6, 50] (.cons rfl (.cons rfl (.cons rfl (.cons rfl .nil)))) ?_
    refine c_cond_f rfl rfl ?_
    refine c_skip ?_
    refine e_then ?_
    refine c_keep [0, 1, 6] (.cons rfl (.cons rfl (.cons rfl .nil))) ?_
    refine c_seq ?_
    refine c_region ?_
    refine l_move rfl rfl rfl ?_
    refine l_move rfl rfl rfl ?_
    refine l_move rfl rfl rfl ?_
    refine v_trunc (h := n) rfl rfl Try.underlying22 tz5 rfl rfl rfl (by first | exact hw3.ibl mem0 | exact hw3.iarg hv | exact hw3.iarg hu | exact hw3.iarg hv1 | exact hw3.iarg hu1 | assumption) (by first | rfl | omega) (by first | rfl | omega) (by first | omega | (simp; done) | (simp; omega)) (fun A8_3 c8_3 h8_3 => ?_)
    have h8 := hw3.iarg hv1
    rw [h8_3] at h8
    have h8b := h8.trunc (h := n) (by simp [bys]; omega)
    rw [show (bys t).take n = bys (t.take n) from by simp [bys]] at h8b
    refine l_call rfl rfl Try.func11 rfl rfl (.cons rfl .nil) (scanS _ (t.take n) (by rw [List.length_take]; omega) w3 h8b) ?_
    rintro _ w6 ⟨ng2, wd2, man2, x2, more2, p2, e2, rfl, hSng2, hG⟩
    have hw6 := hG _ _ _ _ hw3
    try clear hG hw3
    simp only [List.cons_append, List.nil_append] at hw6
    refine l_move rfl rfl rfl ?_
    refine l_extract rfl rfl rfl rfl ?_
    refine l_extract rfl rfl rfl rfl ?_
    refine l_extract rfl rfl rfl rfl ?_
    refine l_alloc hw6 ta27 rfl rfl (fun b8_9 w7 hw7 => ?_)
    try clear hw6
    refine l_store_blks hw7 .head (.zero (.zero (.zero (.zero (.zero .nil))))) rfl tz27 rfl rfl (by first | (simp [Value.oneCell']; done) | (intro u hu; simp only [List.mem_cons, List.not_mem_nil, or_false] at hu; rcases hu with rfl | rfl | rfl | rfl | rfl <;> first | rfl | assumption)) (fun w8 hw8 => ?_)
    try clear hw7
    refine l_assign rfl rfl rfl ?_
    refine l_assign rfl rfl rfl ?_
    refine l_nil ?_
    refine e_then ?_
    refine c_keep [0, 1, 6, 8, 9, 10] (.cons rfl (.cons rfl (.cons rfl (.cons rfl (.cons rfl (.cons rfl .nil)))))) ?_
    refine c_seq ?_
    refine c_seq ?_
    refine c_region ?_
    have hsec : e2 = 0 ∨ (e2 = 81 ∧ p2 = (n : Int) ∧ ng2 = false ∧ wd2 = 0 ∧ man2 = 0 ∧ x2 = 0 ∧ more2 = false) := by
      by_cases h0 : e2 = 0
      · exact .inl h0
      · obtain ⟨h1, h2, h3, h4, h5, h6, m2, h7, h8⟩ := hSng2.bad h0 (by rw [List.length_take]; omega)
        exact .inr ⟨h6, by rw [h7, hbad.take h8], h1, h2, h3, h4, h5⟩
    refine l_move rfl rfl rfl ?_
    refine l_callp rfl rfl Try.func13 rfl rfl (.cons rfl .nil) (numL _ hSng2.ebd _) ?_
    refine l_neq rfl rfl rfl rfl ?_
    refine l_move rfl rfl rfl ?_
    apply l_and 8 [0, 1, 6, 8, 10] rfl rfl (.cons rfl (.cons rfl (.cons rfl (.cons rfl (.cons rfl (.cons rfl .nil)))))) rfl rfl (fun _ => rfl) rfl rfl rfl
    · intro hg9_4
      refine l_move rfl rfl rfl ?_
      refine l_callp rfl rfl Try.func13 rfl rfl (.cons rfl .nil) (numL _ hSng2.ebd _) ?_
      refine l_neq rfl rfl rfl rfl ?_
      refine l_move rfl rfl rfl ?_
      apply l_or 3 [0, 1, 6, 8, 10, 63] rfl rfl (.cons rfl (.cons rfl (.cons rfl (.cons rfl (.cons rfl (.cons rfl (.cons rfl .nil))))))) rfl rfl (fun _ => rfl) rfl rfl rfl
      · intro hg9_8
        refine l_move rfl rfl rfl ?_
        refine l_move rfl rfl rfl ?_
        refine l_neq rfl rfl rfl rfl ?_
        refine l_nil ?_
        exact e_stays rfl (.cons rfl (congrArg Value.bool (decide_eq_false hg9_8).symm) (.cons rfl rfl (.cons rfl rfl (.cons rfl rfl (.cons rfl rfl (.cons rfl rfl (.cons rfl rfl .nil)))))))
      refine l_nil ?_
      exact e_stays rfl (.cons rfl (congrArg Value.bool (decide_eq_true hg9_4).symm) (.cons rfl rfl (.cons rfl rfl (.cons rfl rfl (.cons rfl rfl (.cons rfl rfl .nil))))))
    refine l_turn (s := 72) (v' := .bool false) rfl (by rw [decide_eq_false (by omega)]) ?_
    refine l_move rfl rfl rfl ?_
    refine l_move rfl rfl rfl ?_
    refine l_callp rfl rfl Try.func13 rfl rfl (.cons rfl .nil) (numL _ hSng2.ebd _) ?_
    refine l_neq rfl rfl rfl rfl ?_
    refine l_move rfl rfl rfl ?_
    apply l_and 3 [0, 1, 6, 10, 73] rfl rfl (.cons rfl (.cons rfl (.cons rfl (.cons rfl (.cons rfl (.cons rfl .nil)))))) rfl rfl (fun _ => rfl) rfl rfl rfl
    · intro hg9_18
      refine l_load_agg hw8 mem0 rfl rfl Try.underlying27 rfl tz27 rfl (.take (.take (.take (.take (.take .nil))))) ?_
      refine l_buildS rfl rfl pl27 ta27 .nil ?_
      refine l_neqA rfl rfl fl27 rfl rfl (.bool rfl rfl (.int rfl rfl (.int rfl rfl (.int rfl rfl (.bool rfl rfl .nil))))) ?_
      refine l_nil ?_
      exact e_stays rfl (.cons rfl (congrArg Value.bool (decide_eq_true hg9_18).symm) (.cons rfl rfl (.cons rfl rfl (.cons rfl rfl (.cons rfl rfl (.cons rfl rfl .nil))))))
    refine l_turn (s := 81) (v' := .bool false) rfl (by rw [decide_eq_false (fun h => by rcases hsec with h0 | ⟨h1, h2, h3, h4, h5, h6, h7⟩; exact h.1 h0; exact h.2 ⟨h3, h4, h5, h6, h7, trivial⟩)]) ?_
    refine l_pick_f rfl rfl rfl rfl ?_
    refine l_nil ?_
    refine e_then ?_
    refine c_keep [0, 1, 6, 10, 82] (.cons rfl (.cons rfl (.cons rfl (.cons rfl (.cons rfl .nil))))) ?_
    refine c_cond_f rfl rfl ?_
    refine c_skip ?_
    refine e_then ?_
    refine c_keep [0, 1, 6, 10] (.cons rfl (.cons rfl (.cons rfl (.cons rfl .nil)))) ?_
    refine c_seq ?_
    refine c_seq ?_
    refine c_region ?_
    refine l_move rfl rfl rfl ?_
    refine l_move rfl rfl rfl ?_
    refine v_lenb rfl rfl Try.underlying22 rfl (by first | exact hw8.ibl mem0 | exact hw8.ibl mem1 | exact hw8.iarg hv | exact hw8.iarg hu | exact hw8.iarg hv1 | exact hw8.iarg hu1 | assumption) ?_
    refine l_eql rfl rfl rfl rfl ?_
    refine l_nil ?_
    refine e_then ?_
    refine c_keep [0, 1, 6, 10, 86] (.cons rfl (.cons rfl (.cons rfl (.cons rfl (.cons rfl .nil))))) ?_
    first | refine c_cond rfl (fun hc3 => ?_) (fun hc3 => ?_) | refine c_condb rfl (fun hc3 => ?_) (fun hc3 => ?_)
    · skip
      refine c_seq ?_
      refine c_region ?_
      have hnl : n = t.length := by omega
      subst hnl
      rw [List.take_length] at hSng2
      have he2 := (hSng1.unique hSng2).2.2.2.2.2.2
      subst he2
      refine l_move rfl rfl rfl ?_
      refine l_callp rfl rfl Try.func13 rfl rfl (.cons rfl .nil) (numL _ hSng2.ebd _) ?_
      refine l_eql rfl rfl rfl rfl ?_
      refine l_turn (s := 89) (v' := .bool true) rfl (by rfl) ?_
      refine l_move rfl rfl rfl ?_
      refine l_call rfl rfl Try.func15 rfl rfl .nil (wakesL w8) ?_
      rintro _ w9 ⟨rfl, hG⟩
      have hw9 := hG _ _ _ _ hw8
      try clear hG hw8
      simp only [List.cons_append, List.nil_append] at hw9
      refine l_turn (s := 91) (v' := .bool true) rfl (by rfl) ?_
      refine l_pick_t rfl rfl rfl rfl ?_
      refine l_assign rfl rfl rfl ?_
      refine l_nil ?_
      refine e_then ?_
      refine c_keep [4] (.cons rfl .nil) ?_
      refine c_ret ?_
      refine e_then_ret ?_
      refine e_done1 Try.results5 rfl ?_
      refine ⟨_, rfl, ?_⟩
      have hw10 := St.del (.tail .head) hw9
      try clear hw9
      have hw11 := St.del .head hw10
      try clear hw10
      exact ⟨rfl, hw11.grows⟩
    · skip
      refine c_skip ?_
      refine e_then ?_
      refine c_keep [0, 1, 6] (.cons rfl (.cons rfl (.cons rfl .nil))) ?_
      refine c_seq ?_
      refine c_region ?_
      have hnl : n < t.length := by omega
      refine v_lit0 hw8 rfl rfl Try.underlying22 tz5 (fun v13_0 w12 hw12 => ?_)
      try clear hw8
      refine l_move rfl rfl rfl ?_
      refine l_move rfl rfl rfl ?_
      refine l_add rfl rfl rfl rfl (w_i64 (by omega)) ?_
      refine v_cut (l := 0) (h := n + 1) rfl rfl Try.underlying22 tz5 rfl rfl rfl rfl (by first | exact hw12.io mem0 | exact hw12.ibl mem1 | exact hw12.ibl mem2 | exact hw12.iarg hv | exact hw12.iarg hu | exact hw12.iarg hv1 | exact hw12.iarg hu1 | assumption) (by first | rfl | (simp; done) | (simp; omega)) (by first | rfl | (simp; done) | (simp; omega)) (.inl rfl) (by simp) (by omega) (by first | omega | (simp; omega) | (simp; done)) (fun v13_4 h13_4 ho13_4 => ?_)
      rw [bys_cut, List.drop_zero] at h13_4
      have h134l : (t.take (n + 1)).length = n + 1 := by rw [List.length_take]; omega
      refine v_append0 hw12 rfl rfl Try.underlying22 ti5 rfl rfl rfl (by first | exact hw12.io mem0 | exact hw12.ibl mem1 | exact hw12.ibl mem2 | exact hw12.iarg hv | exact hw12.iarg hu | exact hw12.iarg hv1 | exact hw12.iarg hu1 | assumption) (by first | exact ints_one _ _ | exact bys_one _ | simp [Value.oneCell']) (by first | (simp; done) | (simp; omega)) (by first | (simp; done) | (simp; omega)) (fun v13_5 w13 hw13 => ?_)
      try clear hw12
      refine l_move rfl rfl rfl ?_
      refine v_append0 hw13 rfl rfl Try.underlying22 ti5 rfl rfl rfl (by first | exact hw13.io mem0 | exact hw13.ibl mem1 | exact hw13.ibl mem2 | exact hw13.iarg hv | exact hw13.iarg hu | exact hw13.iarg hv1 | exact hw13.iarg hu1 | assumption) (by first | exact ints_one _ _ | exact bys_one _ | simp [Value.oneCell']) (by first | (simp; done) | (simp; omega)) (by first | (simp; done) | (simp; omega)) (fun v13_7 w14 hw14 => ?_)
      try clear hw13
      rw [show [] ++ bys (t.take (n + 1)) ++ bys m = bys (t.take (n + 1) ++ m) from by simp [bys]] at hw14
      refine l_assign rfl rfl rfl ?_
      refine l_nil ?_
      refine e_then ?_
      refine c_keep [6, 11] (.cons rfl (.cons rfl .nil)) ?_
      refine c_seq ?_
      refine c_region ?_
      refine l_move rfl rfl rfl ?_
      refine l_call rfl rfl Try.func11 rfl rfl (.cons rfl .nil) (scanS _ (t.take (n + 1) ++ m) (by rw [List.length_append, List.length_take]; omega) w14 (hw14.io mem0)) ?_
      rintro _ w15 ⟨ng3, wd3, man3, x3, more3, p3, e3, rfl, hSng3, hG⟩
      have hw15 := hG _ _ _ _ hw14
      try clear hG hw14
      simp only [List.cons_append, List.nil_append] at hw15
      obtain ⟨rfl, rfl⟩ := hbad.more hnl hSng3 (by rw [List.length_append]; omega)
      refine l_move rfl rfl rfl ?_
      refine l_extract rfl rfl rfl rfl ?_
      refine l_extract rfl rfl rfl rfl ?_
      refine l_extract rfl rfl rfl rfl ?_
      refine l_alloc hw15 ta27 rfl rfl (fun b14_6 w16 hw16 => ?_)
      try clear hw15
      refine l_store_blks hw16 .head (.zero (.zero (.zero (.zero (.zero .nil))))) rfl tz27 rfl rfl (by first | (simp [Value.oneCell']; done) | (intro u hu; simp only [List.mem_cons, List.not_mem_nil, or_false] at hu; rcases hu with rfl | rfl | rfl | rfl | rfl <;> first | rfl | assumption)) (fun w17 hw17 => ?_)
      try clear hw16
      refine l_assign rfl rfl rfl ?_
      refine l_assign rfl rfl rfl ?_
      refine l_nil ?_
      refine e_then ?_
      refine c_keep [6, 13, 14] (.cons rfl (.cons rfl (.cons rfl .nil))) ?_
      refine c_seq ?_
      refine c_region ?_
      refine l_move rfl rfl rfl ?_
      refine l_callp rfl rfl Try.func13 rfl rfl (.cons rfl .nil) (numL _ hSng3.ebd _) ?_
      refine l_eql rfl rfl rfl rfl ?_
      refine l_turn (s := 109) (v' := .bool true) rfl (by rfl) ?_
      refine l_move rfl rfl rfl ?_
      refine l_move rfl rfl rfl ?_
      refine l_move rfl rfl rfl ?_
      refine l_eql rfl rfl rfl rfl ?_
      refine l_turn (s := 113) (v' := .bool true) rfl (by simp) ?_
      refine l_pick_t rfl rfl rfl rfl ?_
      refine l_move rfl rfl rfl ?_
      refine l_call rfl rfl Try.func15 rfl rfl .nil (wakesL w17) ?_
      rintro _ w18 ⟨rfl, hG⟩
      have hw18 := hG _ _ _ _ hw17
      try clear hG hw17
      simp only [List.cons_append, List.nil_append] at hw18
      refine l_turn (s := 116) (v' := .bool true) rfl (by rfl) ?_
      refine l_pick_t rfl rfl rfl rfl ?_
      refine l_assign rfl rfl rfl ?_
      refine l_nil ?_
      refine e_then ?_
      refine c_keep [4] (.cons rfl .nil) ?_
      refine c_ret ?_
      refine e_done1 Try.results5 rfl ?_
      refine ⟨_, rfl, ?_⟩
      have hw19 := St.del (.tail (.tail (.tail .head))) hw18
      try clear hw18
      have hw20 := St.del (.tail (.tail .head)) hw19
      try clear hw19
      have hw21 := St.del (.tail .head) hw20
      try clear hw20
      have hw22 := St.del .head hw21
      try clear hw21
      exact ⟨rfl, hw22.grows⟩
theorem scanEndsL  (w : World) :
    CallsV P 6 [] w fun r w' => r = .bool true ∧ Grow w w' [] := by
  refine enterW Try.func6 rfl Try.ntmps6 rfl ?_
  have hw0 := St.start w
  refine c_seq ?_
  refine c_region ?_
  refine l_assign rfl rfl rfl ?_
  refine l_nil ?_
  refine e_then ?_
  refine c_keep [] .nil ?_
  refine c_seq ?_
  refine c_region ?_
  refine v_make (m := 1025) (c := 1025) hw0 rfl rfl Try.underlying22 ti5 rfl rfl rfl (by omega) (by omega) (by omega) (by omega) (by omega) (fun v1_0 w1 hw1 => ?_)
  try clear hw0
  refine l_assign rfl rfl rfl ?_
  refine l_nil ?_
  refine e_then ?_
  refine c_keep [1] (.cons rfl .nil) ?_
  refine c_seq ?_
  refine c_seq ?_
  refine c_region ?_
  refine l_assign rfl rfl rfl ?_
  refine l_nil ?_
  refine e_then ?_
  refine c_block ?_
  refine c_loopk (ι := Nat × L8) (fun (z0 : Nat × L8) => match z0 with | ⟨i, o⟩ => 1025 - i) (fun (z0 : Nat × L8) (w' : World) => match z0 with | ⟨i, o⟩ => St w w.heap.size None' ([As.rb 5 v1_0 o]) w' ∧ i ≤ 1025 ∧ o.length = 1025 ∧ ∀ j, j < i → o.getD j 0 = 48) (fun (z0 : Nat × L8) => match z0 with | ⟨i, o⟩ => [(2, .int .i64 (i : Int))]) [1] (0, List.replicate 1025 0) ?_ (.cons rfl .nil) ?_ ?_
  · exact ⟨hw1.cast (by rw [show List.replicate 1025 (Value.int IntKind.u8 0) = bys (List.replicate 1025 0) from by simp [bys]]), by omega, by simp, fun j hj => by omega⟩
  · exact (.cons rfl (by first | rfl | (refine congrArg (Value.int _) ?_; omega)) .nil)
  rintro ⟨i, o⟩ w2 ⟨hw2, hi, hol, ho⟩
  show RunC P _ _ _ (_ :: _) _
  refine c_seq ?_
  refine c_seq ?_
  refine c_region ?_
  refine l_move rfl rfl rfl ?_
  refine l_move rfl rfl rfl ?_
  refine v_lenb rfl rfl Try.underlying22 rfl (by first | exact hw2.io mem0 | assumption) ?_
  refine l_lss rfl rfl rfl rfl ?_
  refine l_nil ?_
  refine e_then ?_
  refine c_keep [1, 2, 30] (.cons rfl (.cons rfl (.cons rfl .nil))) ?_
  first | refine c_cond rfl (fun hc0 => ?_) (fun hc0 => ?_) | refine c_condb rfl (fun hc0 => ?_) (fun hc0 => ?_)
  · skip
    refine c_skip ?_
    refine e_then ?_
    refine c_keep [1, 2] (.cons rfl (.cons rfl .nil)) ?_
    refine c_seq ?_
    refine c_block ?_
    refine c_region ?_
    refine l_move rfl rfl rfl ?_
    refine l_move rfl rfl rfl ?_
    refine v_addrn (j := i) rfl rfl Try.underlying22 tz5 rfl rfl (by first | exact hw2.io mem0 | assumption) (by omega) (by first | omega | (simp; done) | (simp; omega)) (fun A5_2 c5_2 hA5_2 => ?_)
    refine v_storebw hw2 .head hA5_2 (by first | rfl | omega | (simp; done) | (simp; omega)) rfl tz5 rfl rfl (show (48 : Int) = ((48 : UInt8).toNat : Int) from rfl) (by first | omega | (simp; done) | (simp; omega)) (fun w3 hw3 => ?_)
    try clear hw2
    refine l_nil ?_
    refine e_blk ?_
    refine e_then ?_
    refine c_keep [1, 2] (.cons rfl (.cons rfl .nil)) ?_
    refine c_region ?_
    refine l_move rfl rfl rfl ?_
    refine l_add rfl rfl rfl rfl (w_i64 (by omega)) ?_
    refine l_assign rfl rfl rfl ?_
    refine l_nil ?_
    refine e_againk (i := (i, o)) (i + 1, o.set i 48) ?_ ?_ (.cons rfl .nil) ?_
    · first | omega | (simp; omega)
    · refine ⟨hw3, by omega, by simpa using hol, fun j hj => ?_⟩
      rw [getD_set8 _ _ _ _ (by omega)]
      split
      · rfl
      · exact ho j (by omega)
    · exact (.cons rfl (by first | rfl | (refine congrArg (Value.int _) ?_; omega)) .nil)
  · skip
    refine c_exit ?_
    refine e_then_exit ?_
    refine e_then_exit ?_
    refine e_blk_exit ?_
    refine e_then ?_
    refine c_keep [1] (.cons rfl .nil) ?_
    refine c_seq ?_
    refine c_region ?_
    have hrep : o = List.replicate 1025 48 := rep_of hol (fun j hj => ho j (by omega))
    subst hrep
    refine l_move rfl rfl rfl ?_
    refine v_addrn (j := 1023) rfl rfl Try.underlying22 tz5 rfl rfl (by first | exact hw2.io mem0 | assumption) (by omega) (by first | omega | (simp; done) | (simp; omega)) (fun A6_1 c6_1 hA6_1 => ?_)
    refine v_storebw hw2 .head hA6_1 (by first | rfl | omega | (simp; done) | (simp; omega)) rfl tz5 rfl rfl (show (55 : Int) = ((55 : UInt8).toNat : Int) from rfl) (by first | omega | (simp; done) | (simp; omega)) (fun w4 hw4 => ?_)
    try clear hw2
    refine l_nil ?_
    refine e_then ?_
    refine c_keep [1] (.cons rfl .nil) ?_
    refine c_seq ?_
    refine c_region ?_
    have hl1 : (long1).length = 1025 := by simp [long1]
    refine l_move rfl rfl rfl ?_
    refine v_cut (l := 0) (h := 1024) rfl rfl Try.underlying22 tz5 rfl rfl rfl rfl (by first | exact hw4.io mem0 | assumption) (by first | rfl | (simp; done) | (simp; omega)) (by first | rfl | (simp; done) | (simp; omega)) (.inl rfl) (by simp) (by omega) (by first | omega | (simp; omega) | (simp; done)) (fun v7_1 h7_1 ho7_1 => ?_)
    rw [bys_cut, List.drop_zero] at h7_1
    refine l_call rfl rfl Try.func11 rfl rfl (.cons rfl .nil) (scanS _ (long1.take 1024) (by rw [List.length_take]; omega) w4 h7_1) ?_
    rintro _ w5 ⟨ng1, wd1, man1, x1, more1, p1, e1, rfl, hSng1, hG⟩
    have hw5 := hG _ _ _ _ hw4
    try clear hG hw4
    simp only [List.cons_append, List.nil_append] at hw5
    obtain ⟨rfl, rfl, rfl, rfl, rfl, rfl, rfl⟩ := scanF_eq hSng1 end1
    refine l_move rfl rfl rfl ?_
    refine l_extract rfl rfl rfl rfl ?_
    refine l_extract rfl rfl rfl rfl ?_
    refine l_extract rfl rfl rfl rfl ?_
    refine l_alloc hw5 ta27 rfl rfl (fun b7_7 w6 hw6 => ?_)
    try clear hw5
    refine l_store_blks hw6 .head (.zero (.zero (.zero (.zero (.zero .nil))))) rfl tz27 rfl rfl (by first | (simp [Value.oneCell']; done) | (intro u hu; simp only [List.mem_cons, List.not_mem_nil, or_false] at hu; rcases hu with rfl | rfl | rfl | rfl | rfl <;> first | rfl | assumption)) (fun w7 hw7 => ?_)
    try clear hw6
    refine l_assign rfl rfl rfl ?_
    refine l_assign rfl rfl rfl ?_
    refine l_nil ?_
    refine e_then ?_
    refine c_keep [1, 3, 5] (.cons rfl (.cons rfl (.cons rfl .nil))) ?_
    refine c_seq ?_
    refine c_region ?_
    refine l_move rfl rfl rfl ?_
    refine l_call rfl rfl Try.func11 rfl rfl (.cons rfl .nil) (scanS _ long1 (by omega) w7 (hw7.io mem1)) ?_
    rintro _ w8 ⟨ng2, wd2, man2, x2, more2, p2, e2, rfl, hSng2, hG⟩
    have hw8 := hG _ _ _ _ hw7
    try clear hG hw7
    simp only [List.cons_append, List.nil_append] at hw8
    obtain ⟨rfl, rfl, rfl, rfl, rfl, rfl, rfl⟩ := scanF_eq hSng2 end2
    refine l_move rfl rfl rfl ?_
    refine l_extract rfl rfl rfl rfl ?_
    refine l_extract rfl rfl rfl rfl ?_
    refine l_extract rfl rfl rfl rfl ?_
    refine l_alloc hw8 ta27 rfl rfl (fun b8_6 w9 hw9 => ?_)
    try clear hw8
    refine l_store_blks hw9 .head (.zero (.zero (.zero (.zero (.zero .nil))))) rfl tz27 rfl rfl (by first | (simp [Value.oneCell']; done) | (intro u hu; simp only [List.mem_cons, List.not_mem_nil, or_false] at hu; rcases hu with rfl | rfl | rfl | rfl | rfl <;> first | rfl | assumption)) (fun w10 hw10 => ?_)
    try clear hw9
    refine l_assign rfl rfl rfl ?_
    refine l_assign rfl rfl rfl ?_
    refine l_nil ?_
    refine e_then ?_
    refine c_keep [1, 3, 5, 7, 8] (.cons rfl (.cons rfl (.cons rfl (.cons rfl (.cons rfl .nil))))) ?_
    refine c_seq ?_
    refine c_region ?_
    refine l_move rfl rfl rfl ?_
    refine v_addrn (j := 5) rfl rfl Try.underlying22 tz5 rfl rfl (by first | exact hw10.ibl mem0 | exact hw10.ibl mem1 | exact hw10.io mem2 | assumption) (by omega) (by first | omega | (simp; done) | (simp; omega)) (fun A9_1 c9_1 hA9_1 => ?_)
    refine v_storebw hw10 (.tail (.tail .head)) hA9_1 (by first | rfl | omega | (simp; done) | (simp; omega)) rfl tz5 rfl rfl (show (120 : Int) = ((120 : UInt8).toNat : Int) from rfl) (by first | omega | (simp; done) | (simp; omega)) (fun w11 hw11 => ?_)
    try clear hw10
    refine l_nil ?_
    refine e_then ?_
    refine c_keep [1, 3, 5, 7, 8] (.cons rfl (.cons rfl (.cons rfl (.cons rfl (.cons rfl .nil))))) ?_
    refine c_seq ?_
    refine c_region ?_
    refine l_move rfl rfl rfl ?_
    refine v_cut (l := 0) (h := 1024) rfl rfl Try.underlying22 tz5 rfl rfl rfl rfl (by first | exact hw11.ibl mem0 | exact hw11.ibl mem1 | exact hw11.io mem2 | assumption) (by first | rfl | (simp; done) | (simp; omega)) (by first | rfl | (simp; done) | (simp; omega)) (.inl rfl) (by simp) (by omega) (by first | omega | (simp; omega) | (simp; done)) (fun v10_1 h10_1 ho10_1 => ?_)
    rw [bys_cut, List.drop_zero] at h10_1
    refine l_call rfl rfl Try.func11 rfl rfl (.cons rfl .nil) (scanS _ ((long1.set 5 120).take 1024) (by rw [List.length_take]; omega) w11 h10_1) ?_
    rintro _ w12 ⟨ng3, wd3, man3, x3, more3, p3, e3, rfl, hSng3, hG⟩
    have hw12 := hG _ _ _ _ hw11
    try clear hG hw11
    simp only [List.cons_append, List.nil_append] at hw12
    obtain ⟨rfl, rfl, rfl, rfl, rfl, rfl, rfl⟩ := scanF_eq hSng3 end3
    refine l_move rfl rfl rfl ?_
    refine l_extract rfl rfl rfl rfl ?_
    refine l_extract rfl rfl rfl rfl ?_
    refine l_extract rfl rfl rfl rfl ?_
    refine l_alloc hw12 ta27 rfl rfl (fun b10_7 w13 hw13 => ?_)
    try clear hw12
    refine l_store_blks hw13 .head (.zero (.zero (.zero (.zero (.zero .nil))))) rfl tz27 rfl rfl (by first | (simp [Value.oneCell']; done) | (intro u hu; simp only [List.mem_cons, List.not_mem_nil, or_false] at hu; rcases hu with rfl | rfl | rfl | rfl | rfl <;> first | rfl | assumption)) (fun w14 hw14 => ?_)
    try clear hw13
    refine l_assign rfl rfl rfl ?_
    refine l_assign rfl rfl rfl ?_
    refine l_nil ?_
    refine e_then ?_
    refine c_keep [3, 5, 7, 8, 10, 11] (.cons rfl (.cons rfl (.cons rfl (.cons rfl (.cons rfl (.cons rfl .nil)))))) ?_
    refine c_seq ?_
    refine c_region ?_
    refine v_lit hw14 rfl rfl Try.underlying22 ti5 rfl (.cons rfl (by first | rfl | assumption) (.cons rfl (by first | rfl | assumption) (.cons rfl (by first | rfl | assumption) (.cons rfl (by first | rfl | assumption) (.cons rfl (by first | rfl | assumption) (.cons rfl (by first | rfl | assumption) (.cons rfl (by first | rfl | assumption) .nil))))))) rfl rfl rfl (fun b11_0 w15 hw15 => ?_)
    try clear hw14
    refine l_mark hw15 rfl rfl Try.underlying22 Try.underlying5 rfl rfl (fun v11_1 w16 hw16 => ?_)
    try clear hw15
    refine l_call rfl rfl Try.func11 rfl rfl (.cons rfl .nil) (scanS _ [49, 101, 57, 57, 57, 57, 57] (by decide) w16 (hw16.ii mem0)) ?_
    rintro _ w17 ⟨ng4, wd4, man4, x4, more4, p4, e4, rfl, hSng4, hG⟩
    have hw17 := hG _ _ _ _ hw16
    try clear hG hw16
    simp only [List.cons_append, List.nil_append] at hw17
    obtain ⟨rfl, rfl, rfl, rfl, rfl, rfl, rfl⟩ := scanF_eq hSng4 end4
    refine l_move rfl rfl rfl ?_
    refine l_extract rfl rfl rfl rfl ?_
    refine l_extract rfl rfl rfl rfl ?_
    refine l_extract rfl rfl rfl rfl ?_
    refine l_alloc hw17 ta27 rfl rfl (fun b11_7 w18 hw18 => ?_)
    try clear hw17
    refine l_store_blks hw18 .head (.zero (.zero (.zero (.zero (.zero .nil))))) rfl tz27 rfl rfl (by first | (simp [Value.oneCell']; done) | (intro u hu; simp only [List.mem_cons, List.not_mem_nil, or_false] at hu; rcases hu with rfl | rfl | rfl | rfl | rfl <;> first | rfl | assumption)) (fun w19 hw19 => ?_)
    try clear hw18
    refine l_assign rfl rfl rfl ?_
    refine l_assign rfl rfl rfl ?_
    refine l_nil ?_
    refine e_then ?_
    refine c_keep [3, 5, 7, 8, 10, 11, 12, 14] (.cons rfl (.cons rfl (.cons rfl (.cons rfl (.cons rfl (.cons rfl (.cons rfl (.cons rfl .nil)))))))) ?_
    refine c_seq ?_
    refine c_region ?_
    refine v_lit hw19 rfl rfl Try.underlying22 ti5 rfl (.cons rfl (by first | rfl | assumption) (.cons rfl (by first | rfl | assumption) (.cons rfl (by first | rfl | assumption) (.cons rfl (by first | rfl | assumption) (.cons rfl (by first | rfl | assumption) (.cons rfl (by first | rfl | assumption) (.cons rfl (by first | rfl | assumption) (.cons rfl (by first | rfl | assumption) (.cons rfl (by first | rfl | assumption) (.cons rfl (by first | rfl | assumption) (.cons rfl (by first | rfl | assumption) (.cons rfl (by first | rfl | assumption) .nil)))))))))))) rfl rfl rfl (fun b12_0 w20 hw20 => ?_)
    try clear hw19
    refine l_mark hw20 rfl rfl Try.underlying22 Try.underlying5 rfl rfl (fun v12_1 w21 hw21 => ?_)
    try clear hw20
    refine l_call rfl rfl Try.func11 rfl rfl (.cons rfl .nil) (scanS _ [49, 69, 45, 48, 48, 48, 49, 48, 48, 48, 48, 48] (by decide) w21 (hw21.ii mem0)) ?_
    rintro _ w22 ⟨ng5, wd5, man5, x5, more5, p5, e5, rfl, hSng5, hG⟩
    have hw22 := hG _ _ _ _ hw21
    try clear hG hw21
    simp only [List.cons_append, List.nil_append] at hw22
    obtain ⟨rfl, rfl, rfl, rfl, rfl, rfl, rfl⟩ := scanF_eq hSng5 end5
    refine l_move rfl rfl rfl ?_
    refine l_extract rfl rfl rfl rfl ?_
    refine l_extract rfl rfl rfl rfl ?_
    refine l_extract rfl rfl rfl rfl ?_
    refine l_alloc hw22 ta27 rfl rfl (fun b12_7 w23 hw23 => ?_)
    try clear hw22
    refine l_store_blks hw23 .head (.zero (.zero (.zero (.zero (.zero .nil))))) rfl tz27 rfl rfl (by first | (simp [Value.oneCell']; done) | (intro u hu; simp only [List.mem_cons, List.not_mem_nil, or_false] at hu; rcases hu with rfl | rfl | rfl | rfl | rfl <;> first | rfl | assumption)) (fun w24 hw24 => ?_)
    try clear hw23
    refine l_assign rfl rfl rfl ?_
    refine l_assign rfl rfl rfl ?_
    refine l_nil ?_
    refine e_then ?_
    refine c_keep [3, 5, 7, 8, 10, 11, 12, 14, 15, 17] (.cons rfl (.cons rfl (.cons rfl (.cons rfl (.cons rfl (.cons rfl (.cons rfl (.cons rfl (.cons rfl (.cons rfl .nil)))))))))) ?_
    refine c_seq ?_
    refine c_region ?_
    refine v_lit hw24 rfl rfl Try.underlying22 ti5 rfl (.cons rfl (by first | rfl | assumption) (.cons rfl (by first | rfl | assumption) (.cons rfl (by first | rfl | assumption) (.cons rfl (by first | rfl | assumption) (.cons rfl (by first | rfl | assumption) (.cons rfl (by first | rfl | assumption) (.cons rfl (by first | rfl | assumption) (.cons rfl (by first | rfl | assumption) (.cons rfl (by first | rfl | assumption) .nil))))))))) rfl rfl rfl (fun b13_0 w25 hw25 => ?_)
    try clear hw24
    refine l_mark hw25 rfl rfl Try.underlying22 Try.underlying5 rfl rfl (fun v13_1 w26 hw26 => ?_)
    try clear hw25
    refine l_call rfl rfl Try.func11 rfl rfl (.cons rfl .nil) (scanS _ [45, 73, 110, 70, 105, 78, 105, 84, 121] (by decide) w26 (hw26.ii mem0)) ?_
    rintro _ w27 ⟨ng6, wd6, man6, x6, more6, p6, e6, rfl, hSng6, hG⟩
    have hw27 := hG _ _ _ _ hw26
    try clear hG hw26
    simp only [List.cons_append, List.nil_append] at hw27
    obtain ⟨rfl, rfl, rfl, rfl, rfl, rfl, rfl⟩ := scanF_eq hSng6 end6
    refine l_move rfl rfl rfl ?_
    refine l_extract rfl rfl rfl rfl ?_
    refine l_extract rfl rfl rfl rfl ?_
    refine l_extract rfl rfl rfl rfl ?_
    refine l_alloc hw27 ta27 rfl rfl (fun b13_7 w28 hw28 => ?_)
    try clear hw27
    refine l_store_blks hw28 .head (.zero (.zero (.zero (.zero (.zero .nil))))) rfl tz27 rfl rfl (by first | (simp [Value.oneCell']; done) | (intro u hu; simp only [List.mem_cons, List.not_mem_nil, or_false] at hu; rcases hu with rfl | rfl | rfl | rfl | rfl <;> first | rfl | assumption)) (fun w29 hw29 => ?_)
    try clear hw28
    refine l_assign rfl rfl rfl ?_
    refine l_assign rfl rfl rfl ?_
    refine l_nil ?_
    refine e_then ?_
    refine c_keep [3, 5, 7, 8, 10, 11, 12, 14, 15, 17, 18, 20] (.cons rfl (.cons rfl (.cons rfl (.cons rfl (.cons rfl (.cons rfl (.cons rfl (.cons rfl (.cons rfl (.cons rfl (.cons rfl (.cons rfl .nil)))))))))))) ?_
    refine c_seq ?_
    refine c_region ?_
    refine v_lit hw29 rfl rfl Try.underlying22 ti5 rfl (.cons rfl (by first | rfl | assumption) (.cons rfl (by first | rfl | assumption) (.cons rfl (by first | rfl | assumption) (.cons rfl (by first | rfl | assumption) .nil)))) rfl rfl rfl (fun b14_0 w30 hw30 => ?_)
    try clear hw29
    refine l_mark hw30 rfl rfl Try.underlying22 Try.underlying5 rfl rfl (fun v14_1 w31 hw31 => ?_)
    try clear hw30
    refine l_call rfl rfl Try.func11 rfl rfl (.cons rfl .nil) (scanS _ [45, 78, 65, 78] (by decide) w31 (hw31.ii mem0)) ?_
    rintro _ w32 ⟨ng7, wd7, man7, x7, more7, p7, e7, rfl, hSng7, hG⟩
    have hw32 := hG _ _ _ _ hw31
    try clear hG hw31
    simp only [List.cons_append, List.nil_append] at hw32
    obtain ⟨rfl, rfl, rfl, rfl, rfl, rfl, rfl⟩ := scanF_eq hSng7 end7
    refine l_move rfl rfl rfl ?_
    refine l_extract rfl rfl rfl rfl ?_
    refine l_extract rfl rfl rfl rfl ?_
    refine l_extract rfl rfl rfl rfl ?_
    refine l_alloc hw32 ta27 rfl rfl (fun b14_7 w33 hw33 => ?_)
    try clear hw32
    refine l_store_blks hw33 .head (.zero (.zero (.zero (.zero (.zero .nil))))) rfl tz27 rfl rfl (by first | (simp [Value.oneCell']; done) | (intro u hu; simp only [List.mem_cons, List.not_mem_nil, or_false] at hu; rcases hu with rfl | rfl | rfl | rfl | rfl <;> first | rfl | assumption)) (fun w34 hw34 => ?_)
    try clear hw33
    refine l_assign rfl rfl rfl ?_
    refine l_assign rfl rfl rfl ?_
    refine l_nil ?_
    refine e_then ?_
    refine c_keep [3, 5, 7, 8, 10, 11, 12, 14, 15, 17, 18, 20, 21, 23] (.cons rfl (.cons rfl (.cons rfl (.cons rfl (.cons rfl (.cons rfl (.cons rfl (.cons rfl (.cons rfl (.cons rfl (.cons rfl (.cons rfl (.cons rfl (.cons rfl .nil)))))))))))))) ?_
    refine c_seq ?_
    refine c_region ?_
    refine l_move rfl rfl rfl ?_
    refine l_callp rfl rfl Try.func13 rfl rfl (.cons rfl .nil) (numL _ (by omega) _) ?_
    refine l_eql rfl rfl rfl rfl ?_
    refine l_turn (s := 90) (v' := .bool true) rfl (by rfl) ?_
    refine l_move rfl rfl rfl ?_
    refine l_load_agg hw34 mem10 rfl rfl Try.underlying27 rfl tz27 rfl (.take (.take (.take (.take (.take .nil))))) ?_
    refine l_buildS rfl rfl pl27 ta27 (.one rfl rfl (by first | rfl | assumption) (.succ (.succ .zero)) .nil) ?_
    refine l_eqlA rfl rfl fl27 rfl rfl (.bool rfl rfl (.int rfl rfl (.int rfl rfl (.int rfl rfl (.bool rfl rfl .nil))))) ?_
    refine l_turn (s := 94) (v' := .bool true) rfl (by simp) ?_
    refine l_pick_t rfl rfl rfl rfl ?_
    refine l_move rfl rfl rfl ?_
    refine l_move rfl rfl rfl ?_
    refine l_callp rfl rfl Try.func13 rfl rfl (.cons rfl .nil) (numL _ (by omega) _) ?_
    refine l_eql rfl rfl rfl rfl ?_
    refine l_turn (s := 99) (v' := .bool true) rfl (by rfl) ?_
    refine l_pick_t rfl rfl rfl rfl ?_
    refine l_move rfl rfl rfl ?_
    refine l_move rfl rfl rfl ?_
    refine l_eql rfl rfl rfl rfl ?_
    refine l_turn (s := 103) (v' := .bool true) rfl (by rfl) ?_
    refine l_pick_t rfl rfl rfl rfl ?_
    refine l_move rfl rfl rfl ?_
    refine l_move rfl rfl rfl ?_
    refine l_callp rfl rfl Try.func13 rfl rfl (.cons rfl .nil) (numL _ (by omega) _) ?_
    refine l_eql rfl rfl rfl rfl ?_
    refine l_turn (s := 108) (v' := .bool true) rfl (by rfl) ?_
    refine l_pick_t rfl rfl rfl rfl ?_
    refine l_move rfl rfl rfl ?_
    refine l_move rfl rfl rfl ?_
    refine l_eql rfl rfl rfl rfl ?_
    refine l_turn (s := 112) (v' := .bool true) rfl (by rfl) ?_
    refine l_pick_t rfl rfl rfl rfl ?_
    refine l_assign rfl rfl rfl ?_
    refine l_nil ?_
    refine e_then ?_
    refine c_keep [12, 14, 15, 17, 18, 20, 21, 23, 24] (.cons rfl (.cons rfl (.cons rfl (.cons rfl (.cons rfl (.cons rfl (.cons rfl (.cons rfl (.cons rfl .nil))))))))) ?_
    refine c_seq ?_
    refine c_region ?_
    refine l_move rfl rfl rfl ?_
    refine l_callp rfl rfl Try.func13 rfl rfl (.cons rfl .nil) (numL _ (by omega) _) ?_
    refine l_eql rfl rfl rfl rfl ?_
    refine l_turn (s := 116) (v' := .bool true) rfl (by rfl) ?_
    refine l_move rfl rfl rfl ?_
    refine l_field fo27_3 rfl rfl rfl ?_
    refine l_load_blk hw34 mem6 rfl rfl Try.underlying3 rfl rfl rfl ?_
    refine l_eql rfl rfl rfl rfl ?_
    refine l_turn (s := 120) (v' := .bool true) rfl (by rfl) ?_
    refine l_pick_t rfl rfl rfl rfl ?_
    refine l_move rfl rfl rfl ?_
    refine l_move rfl rfl rfl ?_
    refine l_callp rfl rfl Try.func13 rfl rfl (.cons rfl .nil) (numL _ (by omega) _) ?_
    refine l_eql rfl rfl rfl rfl ?_
    refine l_turn (s := 125) (v' := .bool true) rfl (by rfl) ?_
    refine l_pick_t rfl rfl rfl rfl ?_
    refine l_move rfl rfl rfl ?_
    refine l_field fo27_3 rfl rfl rfl ?_
    refine l_load_blk hw34 mem4 rfl rfl Try.underlying3 rfl rfl rfl ?_
    refine l_eql rfl rfl rfl rfl ?_
    refine l_turn (s := 130) (v' := .bool true) rfl (by rfl) ?_
    refine l_pick_t rfl rfl rfl rfl ?_
    refine l_assign rfl rfl rfl ?_
    refine l_nil ?_
    refine e_then ?_
    refine c_keep [18, 20, 21, 23, 24, 25] (.cons rfl (.cons rfl (.cons rfl (.cons rfl (.cons rfl (.cons rfl .nil)))))) ?_
    refine c_seq ?_
    refine c_region ?_
    refine l_move rfl rfl rfl ?_
    refine l_move rfl rfl rfl ?_
    refine l_move rfl rfl rfl ?_
    refine l_pick_t rfl rfl rfl rfl ?_
    refine l_move rfl rfl rfl ?_
    refine l_move rfl rfl rfl ?_
    refine l_callp rfl rfl Try.func13 rfl rfl (.cons rfl .nil) (numL _ (by omega) _) ?_
    refine l_eql rfl rfl rfl rfl ?_
    refine l_turn (s := 139) (v' := .bool true) rfl (by rfl) ?_
    refine l_pick_t rfl rfl rfl rfl ?_
    refine l_move rfl rfl rfl ?_
    refine l_load_agg hw34 mem2 rfl rfl Try.underlying27 rfl tz27 rfl (.take (.take (.take (.take (.take .nil))))) ?_
    refine l_buildS rfl rfl pl27 ta27 (.one rfl rfl (by first | rfl | assumption) .zero (.one rfl rfl (by first | rfl | assumption) (.succ .zero) .nil)) ?_
    refine l_eqlA rfl rfl fl27 rfl rfl (.bool rfl rfl (.int rfl rfl (.int rfl rfl (.int rfl rfl (.bool rfl rfl .nil))))) ?_
    refine l_turn (s := 144) (v' := .bool true) rfl (by simp) ?_
    refine l_pick_t rfl rfl rfl rfl ?_
    refine l_move rfl rfl rfl ?_
    refine l_move rfl rfl rfl ?_
    refine l_callp rfl rfl Try.func13 rfl rfl (.cons rfl .nil) (numL _ (by omega) _) ?_
    refine l_eql rfl rfl rfl rfl ?_
    refine l_turn (s := 149) (v' := .bool true) rfl (by rfl) ?_
    refine l_pick_t rfl rfl rfl rfl ?_
    refine l_move rfl rfl rfl ?_
    refine l_load_agg hw34 mem0 rfl rfl Try.underlying27 rfl tz27 rfl (.take (.take (.take (.take (.take .nil))))) ?_
    refine l_buildS rfl rfl pl27 ta27 (.one rfl rfl (by first | rfl | assumption) (.succ .zero) .nil) ?_
    refine l_eqlA rfl rfl fl27 rfl rfl (.bool rfl rfl (.int rfl rfl (.int rfl rfl (.int rfl rfl (.bool rfl rfl .nil))))) ?_
    refine l_turn (s := 154) (v' := .bool true) rfl (by simp) ?_
    refine l_pick_t rfl rfl rfl rfl ?_
    refine l_move rfl rfl rfl ?_
    refine l_pick_t rfl rfl rfl rfl ?_
    refine l_move rfl rfl rfl ?_
    refine l_call rfl rfl Try.func15 rfl rfl .nil (wakesL w34) ?_
    rintro _ w35 ⟨rfl, hG⟩
    have hw35 := hG _ _ _ _ hw34
    try clear hG hw34
    simp only [List.cons_append, List.nil_append] at hw35
    refine l_turn (s := 159) (v' := .bool true) rfl (by rfl) ?_
    refine l_pick_t rfl rfl rfl rfl ?_
    refine l_assign rfl rfl rfl ?_
    refine l_nil ?_
    refine e_then ?_
    refine c_keep [0] (.cons rfl .nil) ?_
    refine c_ret ?_
    refine e_done1 Try.results6 rfl ?_
    refine ⟨_, rfl, ?_⟩
    have hw36 := St.del (.tail (.tail (.tail (.tail (.tail (.tail (.tail (.tail (.tail (.tail (.tail .head))))))))))) hw35
    try clear hw35
    have hw37 := St.del (.tail (.tail (.tail (.tail (.tail (.tail (.tail (.tail (.tail (.tail .head)))))))))) hw36
    try clear hw36
    have hw38 := St.del (.tail (.tail (.tail (.tail (.tail (.tail (.tail (.tail (.tail .head))))))))) hw37
    try clear hw37
    have hw39 := St.del (.tail (.tail (.tail (.tail (.tail (.tail (.tail (.tail .head)))))))) hw38
    try clear hw38
    have hw40 := St.del (.tail (.tail (.tail (.tail (.tail (.tail (.tail .head))))))) hw39
    try clear hw39
    have hw41 := St.del (.tail (.tail (.tail (.tail (.tail (.tail .head)))))) hw40
    try clear hw40
    have hw42 := St.del (.tail (.tail (.tail (.tail (.tail .head))))) hw41
    try clear hw41
    have hw43 := St.del (.tail (.tail (.tail (.tail .head)))) hw42
    try clear hw42
    have hw44 := St.del (.tail (.tail (.tail .head))) hw43
    try clear hw43
    have hw45 := St.del (.tail (.tail .head)) hw44
    try clear hw44
    have hw46 := St.del (.tail .head) hw45
    try clear hw45
    have hw47 := St.del .head hw46
    try clear hw46
    exact ⟨rfl, hw47.grows⟩
end Go.Proofs.Ytjkaahnadaapoaa.W
