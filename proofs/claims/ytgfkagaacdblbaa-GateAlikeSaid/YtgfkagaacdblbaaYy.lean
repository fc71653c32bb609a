/- what hands have read is honest -/
import Derived.Test.YtgfkagaacdblbaaYx
set_option linter.unusedVariables false
set_option linter.unusedSimpArgs false
set_option maxRecDepth 10000
namespace Go.Proofs.Ytgfkagaacdblbaa.W
open Go.Vc Go.RowKit
theorem ent0 {q : Int} (hq : -342 ≤ q ∧ q ≤ 308) : (entS q).2.2 = 0 ∧ (whereS q).2.2 = 0 := by
 constructor
 ·unfold entS
  rw [if_neg (by omega)]
  split <;> rfl
 ·unfold whereS
  rw [if_neg (by omega)]
theorem Iv.at {ls : List (List Int)} {G : GW} (h : Iv ls G) {i : Nat} {l : List Int} (hl : ls[i]? = some l) : ∃ n, n ≤ l.length ∧ readF G (i : Int) = readA (l.take n) ∧ (handF G (i : Int)).2.1 = (n : Int) ∧ ∀ k, k < n → (sgF G (whereS (l.getD k 0)).1).done = true := by
 have hi : i < G.hs.length := by rw [h.lv.len]; exact (List.getElem?_eq_some_iff.1 hl).1
 have hg := List.getElem?_eq_getElem hi
 have ha := h.lv.ask i _ hg
 rw [hl] at ha
 have ha : l = (G.hs[i]).asks := by simpa using ha
 have ho := h.wf.hd i _ hg
 refine ⟨(G.hs[i]).nx, ?_, ?_, ?_, fun k hk => ?_⟩
 ·rw [ha]
  by_cases h4 : (G.hs[i]).line = 4
  ·exact Nat.le_of_eq (ho.en h4)
  ·exact Nat.le_of_lt (ho.nx h4)
 ·unfold readF
  rw [if_pos (by omega), show ((i : Nat) : Int).toNat = i from rfl, hg, ha]
 ·unfold handF
  rw [if_pos (by omega), show ((i : Nat) : Int).toNat = i from rfl, hg]
 ·have hd := ho.dn k hk
  rw [← ha] at hd
  have hb := where_bd (l.getD k 0)
  unfold sgF
  rw [if_pos (by omega)]
  exact hd
theorem readA_len (l : List Int) : (readA l).length = l.length := by simp [readA]
theorem readT_at {l : List Int} {n k : Nat} (hn : n ≤ l.length) (hk : k < n) : (readA (l.take n))[k]? = some (wrow (entS (l.getD k 0)).1) := by
 rw [readA_at (by rw [readA_len, List.length_take]; omega)]
 simp [List.getD, List.getElem?_take, hk]
theorem honestL (b : Nat) (X : Gm) (v : Value) (vs : List Value) (ls : List (List Int)) (hvl : vs.length = ls.length) (hok : okA ls) (hiv : Iv ls X.abs) (w : World) (hGF : GF b X w) (hv : IV w v vs) (hvs : ∀ (j : Nat) (x : Value) (l : List Int), vs[j]? = some x → ls[j]? = some l → IV w x (ints .i64 l)) :
  CallsV P 27 [ptr b, v] w fun r w' => r = .bool true ∧ Grow w w' [] := by
 refine enterW Try.func27 rfl Try.ntmps27 rfl ?_
 have hw0 := St.start w
 have hn16 := hok.1
 refine c_seq (c_region (l_assign rfl rfl rfl (l_nil (e_then ?_))))
 refine c_keep [0, 1] (.cons rfl (.cons rfl .nil)) ?_
 refine c_seq (c_seq (c_region (l_assign rfl rfl rfl (l_nil (e_then ?_)))))
 refine c_block ?_
 refine c_loopk (ι := Nat) (fun (i : Nat) => vs.length - i) (fun (i : Nat) (w' : World) => St w w.heap.size None' ([]) w' ∧ i ≤ vs.length) (fun (i : Nat) => [(5, .int .i64 (i : Int))]) [0, 1] (0) ?_ (.cons rfl (.cons rfl .nil)) ?_ ?_
 ·exact ⟨hw0, by omega⟩
 ·exact (.cons rfl (by first | rfl | (refine congrArg (Value.int _) ?_; omega)) .nil)
 rintro i w1 ⟨hw1, hi⟩
 show RunC P _ _ _ (_ :: _) _
 refine c_seq (c_seq (c_region (l_move rfl rfl rfl (l_move rfl rfl rfl ?_))))
 refine v_len rfl rfl Try.underlying22 rfl (by first | exact hw1.iarg hv | assumption) ?_
 refine l_lss rfl rfl rfl rfl ?_
 refine l_nil (e_then ?_)
 refine c_keep [0, 1, 5, 17] (.cons rfl (.cons rfl (.cons rfl (.cons rfl .nil)))) ?_
 first | refine c_cond rfl (fun hc0 => ?_) (fun hc0 => ?_) | refine c_condb rfl (fun hc0 => ?_) (fun hc0 => ?_)
 ·skip
  refine c_skip (e_then ?_)
  refine c_keep [0, 1, 5] (.cons rfl (.cons rfl (.cons rfl .nil))) ?_
  refine c_seq (c_block (c_seq (c_region ?_)))
  have hi1 : i < ls.length := by omega
  obtain ⟨x, hvj⟩ : ∃ x, vs[i]? = some x := ⟨_, List.getElem?_eq_getElem (by omega)⟩
  obtain ⟨l, hlj⟩ : ∃ l, ls[i]? = some l := ⟨_, List.getElem?_eq_getElem hi1⟩
  have hx := hvs i x l hvj hlj
  have hlok := hok.2 l (List.mem_of_getElem? hlj)
  have hl64 := hlok.1
  have hRg : Rg (-342) 308 l := hlok.2
  obtain ⟨n, hnl, hrd, hhn, hdn⟩ := hiv.at hlj
  have hrn : (readF X.abs (i : Int)).length = n := by rw [hrd, readA_len, List.length_take]; omega
  refine l_move rfl rfl rfl (l_move rfl rfl rfl ?_)
  refine l_call rfl rfl Try.func15 rfl rfl (.cons rfl (.cons rfl .nil)) (ReadG b X hiv.wf (i : Int) w1 (hGF.arg hw1)) ?_
  rintro ra w2 ⟨_, rfl, hG⟩
  have hw2 := hG _ _ _ _ hw1
  try clear hG hw1
  simp only [List.cons_append, List.nil_append] at hw2
  refine l_assign rfl rfl rfl (l_nil (e_then ?_))
  refine c_keep [0, 1, 5, 6] (.cons rfl (.cons rfl (.cons rfl (.cons rfl .nil)))) ?_
  refine c_seq (c_seq (c_region (l_move rfl rfl rfl ?_)))
  refine k_len rfl rfl Try.underlying34 rfl (Own.ik (readF_rows X.abs (i : Int)) (hw2.ok mem0)) ?_
  refine l_move rfl rfl rfl (l_move rfl rfl rfl ?_)
  refine v_get rfl rfl rfl rfl Try.underlying22 tz23 Try.underlying23 rfl rfl rfl (by first | exact hw2.ik (by assumption) mem0 | exact hw2.iarg hv | assumption) (by first | omega | (simp; done) | (simp; omega)) hvj ?_ rfl
  refine v_leni rfl rfl Try.underlying23 rfl (hw2.iarg hx) ?_
  refine l_gtr rfl rfl rfl rfl ?_
  refine l_turn (s := 30) (v' := .bool false) rfl (by rw [hrn]; simp; omega) ?_
  refine l_move rfl rfl rfl (l_move rfl rfl rfl (l_move rfl rfl rfl ?_))
  refine l_call rfl rfl Try.func18 rfl rfl (.cons rfl (.cons rfl .nil)) (HandG b X hiv.wf (i : Int) w2 (hGF.arg hw2)) ?_
  rintro _ w3 ⟨rfl, hG⟩
  have hw3 := hG _ _ _ _ hw2
  try clear hG hw2
  simp only [List.cons_append, List.nil_append] at hw3
  refine l_fieldv (show fieldTy P 41 1 = some (1, true) by kernel_rfl) rfl rfl rfl rfl ?_
  refine l_move rfl rfl rfl ?_
  refine k_len rfl rfl Try.underlying34 rfl (Own.ik (readF_rows X.abs (i : Int)) (hw3.ok mem0)) ?_
  refine l_neq rfl rfl rfl rfl ?_
  refine l_turn (s := 38) (v' := .bool false) rfl (by rw [hhn, hrn]; simp) ?_
  refine l_pick_f rfl rfl rfl rfl ?_
  refine l_nil (e_then ?_)
  refine c_keep [0, 1, 5, 6, 39] (.cons rfl (.cons rfl (.cons rfl (.cons rfl (.cons rfl .nil))))) ?_
  refine c_cond_f rfl rfl ?_
  refine c_skip (e_then ?_)
  refine c_keep [0, 1, 5, 6] (.cons rfl (.cons rfl (.cons rfl (.cons rfl .nil)))) ?_
  refine c_seq (c_region (l_assign rfl rfl rfl (l_nil (e_then (c_block ?_)))))
  refine c_loopk (ι := Nat) (fun (k : Nat) => (readF X.abs (i : Int)).length - k) (fun (k : Nat) (w' : World) => St w w.heap.size None' ([As.rk 77 2 ra (readF X.abs (i : Int))]) w' ∧ k ≤ (readF X.abs (i : Int)).length) (fun (k : Nat) => [(7, .int .i64 (k : Int))]) [0, 1, 5, 6] (0) ?_ (.cons rfl (.cons rfl (.cons rfl (.cons rfl .nil)))) ?_ ?_
  ·exact ⟨hw3, by omega⟩
  ·exact (.cons rfl (by first | rfl | (refine congrArg (Value.int _) ?_; omega)) .nil)
  rintro k w4 ⟨hw4, hk⟩
  show RunC P _ _ _ (_ :: _) _
  refine c_seq (c_seq (c_region (l_move rfl rfl rfl (l_move rfl rfl rfl ?_))))
  refine k_len rfl rfl Try.underlying34 rfl (Own.ik (readF_rows X.abs (i : Int)) (hw4.ok mem0)) ?_
  refine l_lss rfl rfl rfl rfl ?_
  refine l_nil (e_then ?_)
  refine c_keep [0, 1, 5, 6, 7, 43] (.cons rfl (.cons rfl (.cons rfl (.cons rfl (.cons rfl (.cons rfl .nil)))))) ?_
  first | refine c_cond rfl (fun hc2 => ?_) (fun hc2 => ?_) | refine c_condb rfl (fun hc2 => ?_) (fun hc2 => ?_)
  ·skip
   refine c_skip (e_then ?_)
   refine c_keep [0, 1, 5, 6, 7] (.cons rfl (.cons rfl (.cons rfl (.cons rfl (.cons rfl .nil))))) ?_
   refine c_seq (c_block (c_seq (c_region ?_)))
   have hq0 := hRg.get (j := k) (by omega)
   have hrw : (readF X.abs (i : Int))[k]? = some (wrow (entS (l.getD k 0)).1) := by rw [hrd]; exact readT_at hnl (by omega)
   have he0 := ent0 hq0
   have hdk := hdn k (by omega)
   refine l_move rfl rfl rfl (l_move rfl rfl rfl ?_)
   refine v_get rfl rfl rfl rfl Try.underlying22 tz23 Try.underlying23 rfl rfl rfl (by first | exact hw4.ik (by assumption) mem0 | exact hw4.iarg hv | assumption) (by first | omega | (simp; done) | (simp; omega)) hvj ?_ rfl
   refine l_move rfl rfl rfl ?_
   refine v_getr (j := k) rfl rfl rfl rfl Try.underlying23 tz3 Try.underlying3 rfl rfl (hw4.iarg hx) hRg rfl rfl (by first | omega | (simp; done) | (simp; omega)) (fun hb9 => ?_)
   refine l_call rfl rfl Try.func43 rfl rfl (.cons rfl .nil) (entryP (l.getD k 0) (by omega) w4) ?_
   rintro _ w5 ⟨rfl, hG⟩
   have hw5 := hG _ _ _ _ hw4
   try clear hG hw4
   simp only [List.cons_append, List.nil_append] at hw5
   refine l_move rfl rfl rfl (l_extract rfl rfl rfl rfl (l_extract rfl rfl rfl rfl (l_extract rfl rfl rfl rfl ?_)))
   refine l_alloc hw5 ta77 rfl rfl (fun b10_12 w6 hw6 => ?_)
   try clear hw5
   refine l_store_blks hw6 .head (.zero (.zero .nil)) rfl tz77 rfl rfl (by first | (simp [Value.oneCell']; done) | (intro u hu; simp only [List.mem_cons, List.not_mem_nil, or_false] at hu; rcases hu with rfl | rfl <;> first | rfl | assumption)) (fun w7 hw7 => ?_)
   try clear hw6
   refine l_assign rfl rfl rfl (l_assign rfl rfl rfl (l_nil (e_then ?_)))
   refine c_keep [0, 1, 5, 6, 7, 8, 10] (.cons rfl (.cons rfl (.cons rfl (.cons rfl (.cons rfl (.cons rfl (.cons rfl .nil))))))) ?_
   refine c_seq (c_region (l_move rfl rfl rfl (l_move rfl rfl rfl ?_)))
   refine v_get rfl rfl rfl rfl Try.underlying22 tz23 Try.underlying23 rfl rfl rfl (by first | exact hw7.ibl mem0 | exact hw7.ik (by assumption) mem1 | exact hw7.iarg hv | assumption) (by first | omega | (simp; done) | (simp; omega)) hvj ?_ rfl
   refine l_move rfl rfl rfl ?_
   refine v_getr (j := k) rfl rfl rfl rfl Try.underlying23 tz3 Try.underlying3 rfl rfl (hw7.iarg hx) hRg rfl rfl (by first | omega | (simp; done) | (simp; omega)) (fun hb9 => ?_)
   refine l_callp rfl rfl Try.func29 rfl rfl (.cons rfl .nil) (whereP (l.getD k 0) (by omega) _) ?_
   refine l_move rfl rfl rfl (l_extract rfl rfl rfl rfl (l_extract rfl rfl rfl rfl (l_extract rfl rfl rfl rfl (l_assign rfl rfl rfl (l_assign rfl rfl rfl ?_)))))
   refine l_assign rfl rfl rfl (l_nil (e_then ?_))
   refine c_keep [0, 1, 5, 6, 7, 8, 10, 11, 13] (.cons rfl (.cons rfl (.cons rfl (.cons rfl (.cons rfl (.cons rfl (.cons rfl (.cons rfl (.cons rfl .nil))))))))) ?_
   refine c_seq ?_
   have hw8 := hw7.drewn
   try clear hw7
   obtain ⟨A12, c12, hA12⟩ : ∃ A c, ra = .slice (some A) (readF X.abs (i : Int)).length c := by
    obtain ⟨_, A, c, e, _, hs⟩ := (Own.ik (readF_rows X.abs (i : Int)) (hw8.ok mem1))
    obtain ⟨ad, rfl⟩ := hs.some_ (by rw [(readF_rows _ _).len]; omega)
    exact ⟨ad, c, e⟩
   refine c_any (n := 22) [false, false, false, false, false, false, false, false, false, false, false, false, false, false, false, false, false, false, false, false, false, false] (fun wS => IK wS 2 ra (readF X.abs (i : Int)) ∧ (As.blk b10_12 77 (wrow (entS (l.getD k 0)).1)).ok wS) (by kernel_rfl) rfl rfl ?_
   apply a_take (L' := [true, false, false, false, false, false, false, false, false, false, false, false, false, false, false, false, false, false, false, false, false, false]) 0 rfl (by kernel_rfl) (by kernel_rfl) (by kernel_rfl) rfl rfl rfl rfl rfl (⟨(Own.ik (readF_rows X.abs (i : Int)) (hw8.ok mem1)), hw8.ok mem0⟩)
   ·intro wS sS
    refine l_move rfl rfl rfl (l_nil ?_)
    exact e_got rfl
   refine a_one (L' := [true, true, false, false, false, false, false, false, false, false, false, false, false, false, false, false, false, false, false, false, false, false]) 1 (by kernel_rfl) rfl rfl ?_
   refine l_callp rfl rfl Try.func10 rfl rfl (.cons rfl .nil) (numL28 _ _) ?_
   refine l_nil ?_
   refine e_any (⟨(Own.ik (readF_rows X.abs (i : Int)) (hw8.ok mem1)), hw8.ok mem0⟩) ?_
   apply a_take (L' := [true, true, true, false, false, false, false, false, false, false, false, false, false, false, false, false, false, false, false, false, false, false]) 2 rfl (by kernel_rfl) (by kernel_rfl) (by kernel_rfl) rfl rfl rfl rfl rfl (⟨(Own.ik (readF_rows X.abs (i : Int)) (hw8.ok mem1)), hw8.ok mem0⟩)
   ·intro wS sS
    refine l_neq rfl rfl rfl rfl ?_
    refine l_turn (s := 72) (v' := .bool false) rfl (by rw [he0.1]; rfl) ?_
    refine l_nil ?_
    exact e_got rfl
   apply a_take (L' := [true, true, true, true, false, false, false, false, false, false, false, false, false, false, false, false, false, false, false, false, false, false]) 3 rfl (by kernel_rfl) (by kernel_rfl) (by kernel_rfl) rfl rfl rfl rfl rfl (⟨(Own.ik (readF_rows X.abs (i : Int)) (hw8.ok mem1)), hw8.ok mem0⟩)
   ·intro wS sS
    refine l_move rfl rfl rfl (l_nil ?_)
    exact e_got rfl
   apply a_take (L' := [true, true, true, true, true, false, false, false, false, false, false, false, false, false, false, false, false, false, false, false, false, false]) 4 rfl (by kernel_rfl) (by kernel_rfl) (by kernel_rfl) rfl rfl rfl rfl rfl (⟨(Own.ik (readF_rows X.abs (i : Int)) (hw8.ok mem1)), hw8.ok mem0⟩)
   ·intro wS sS
    refine l_move rfl rfl rfl (l_nil ?_)
    exact e_got rfl
   refine a_one (L' := [true, true, true, true, true, true, false, false, false, false, false, false, false, false, false, false, false, false, false, false, false, false]) 5 (by kernel_rfl) rfl rfl ?_
   refine l_callp rfl rfl Try.func10 rfl rfl (.cons rfl .nil) (numL28 _ _) ?_
   refine l_nil ?_
   refine e_any (⟨(Own.ik (readF_rows X.abs (i : Int)) (hw8.ok mem1)), hw8.ok mem0⟩) ?_
   apply a_take (L' := [true, true, true, true, true, true, true, false, false, false, false, false, false, false, false, false, false, false, false, false, false, false]) 6 rfl (by kernel_rfl) (by kernel_rfl) (by kernel_rfl) rfl rfl rfl rfl rfl (⟨(Own.ik (readF_rows X.abs (i : Int)) (hw8.ok mem1)), hw8.ok mem0⟩)
   ·intro wS sS
    refine l_neq rfl rfl rfl rfl ?_
    refine l_turn (s := 76) (v' := .bool false) rfl (by rw [he0.2]; rfl) ?_
    refine l_nil ?_
    exact e_got rfl
   apply a_take (L' := [true, true, true, true, true, true, true, true, false, false, false, false, false, false, false, false, false, false, false, false, false, false]) 7 rfl (by kernel_rfl) (by kernel_rfl) (by kernel_rfl) rfl rfl rfl rfl rfl (⟨(Own.ik (readF_rows X.abs (i : Int)) (hw8.ok mem1)), hw8.ok mem0⟩)
   ·intro wS sS
    refine l_pick_f rfl rfl rfl rfl ?_
    refine l_nil ?_
    exact e_got rfl
   apply a_take (L' := [true, true, true, true, true, true, true, true, true, false, false, false, false, false, false, false, false, false, false, false, false, false]) 8 rfl (by kernel_rfl) (by kernel_rfl) (by kernel_rfl) rfl rfl rfl rfl rfl (⟨(Own.ik (readF_rows X.abs (i : Int)) (hw8.ok mem1)), hw8.ok mem0⟩)
   ·intro wS sS
    refine l_move rfl rfl rfl (l_nil ?_)
    exact e_got rfl
   apply a_take (L' := [true, true, true, true, true, true, true, true, true, true, false, false, false, false, false, false, false, false, false, false, false, false]) 9 rfl (by kernel_rfl) (by kernel_rfl) (by kernel_rfl) rfl rfl rfl rfl rfl (⟨(Own.ik (readF_rows X.abs (i : Int)) (hw8.ok mem1)), hw8.ok mem0⟩)
   ·intro wS sS
    refine l_move rfl rfl rfl (l_nil ?_)
    exact e_got rfl
   apply a_take (L' := [true, true, true, true, true, true, true, true, true, true, true, false, false, false, false, false, false, false, false, false, false, false]) 10 rfl (by kernel_rfl) (by kernel_rfl) (by kernel_rfl) rfl rfl rfl rfl rfl (⟨(Own.ik (readF_rows X.abs (i : Int)) (hw8.ok mem1)), hw8.ok mem0⟩)
   ·intro wS sS
    refine l_move rfl rfl rfl (l_nil ?_)
    exact e_got rfl
   apply a_take (L' := [true, true, true, true, true, true, true, true, true, true, true, true, false, false, false, false, false, false, false, false, false, false]) 11 rfl (by kernel_rfl) (by kernel_rfl) (by kernel_rfl) rfl rfl rfl rfl rfl (⟨(Own.ik (readF_rows X.abs (i : Int)) (hw8.ok mem1)), hw8.ok mem0⟩)
   ·intro wS sS
    refine k_addrx (j := k) rfl rfl Try.underlying34 tz77 (by decide) rfl rfl sS.1 hA12 rfl (by omega) ?_
    refine l_nil ?_
    exact e_got rfl
   apply a_take (L' := [true, true, true, true, true, true, true, true, true, true, true, true, true, false, false, false, false, false, false, false, false, false]) 12 rfl (by kernel_rfl) (by kernel_rfl) (by kernel_rfl) rfl rfl rfl rfl rfl (⟨(Own.ik (readF_rows X.abs (i : Int)) (hw8.ok mem1)), hw8.ok mem0⟩)
   ·intro wS sS
    refine k_load (j := k) rfl rfl Try.underlying77 rfl tz77 rfl hA12 sS.1 hrw ?_
    refine l_nil ?_
    exact e_got rfl
   apply a_take (L' := [true, true, true, true, true, true, true, true, true, true, true, true, true, true, false, false, false, false, false, false, false, false]) 13 rfl (by kernel_rfl) (by kernel_rfl) (by kernel_rfl) rfl rfl rfl rfl rfl (⟨(Own.ik (readF_rows X.abs (i : Int)) (hw8.ok mem1)), hw8.ok mem0⟩)
   ·intro wS sS
    refine l_load_agg (blk_st sS.2) mem0 rfl rfl Try.underlying77 rfl tz77 rfl (.take (.take .nil)) ?_
    refine l_nil ?_
    exact e_got rfl
   apply a_take (L' := [true, true, true, true, true, true, true, true, true, true, true, true, true, true, true, false, false, false, false, false, false, false]) 14 rfl (by kernel_rfl) (by kernel_rfl) (by kernel_rfl) rfl rfl rfl rfl rfl (⟨(Own.ik (readF_rows X.abs (i : Int)) (hw8.ok mem1)), hw8.ok mem0⟩)
   ·intro wS sS
    refine l_neqA rfl rfl fl77 rfl rfl (.int rfl rfl (.int rfl rfl .nil)) ?_
    refine l_turn (s := 84) (v' := .bool false) rfl (by simp) ?_
    refine l_nil ?_
    exact e_got rfl
   apply a_take (L' := [true, true, true, true, true, true, true, true, true, true, true, true, true, true, true, true, false, false, false, false, false, false]) 15 rfl (by kernel_rfl) (by kernel_rfl) (by kernel_rfl) rfl rfl rfl rfl rfl (⟨(Own.ik (readF_rows X.abs (i : Int)) (hw8.ok mem1)), hw8.ok mem0⟩)
   ·intro wS sS
    refine l_pick_f rfl rfl rfl rfl ?_
    refine l_nil ?_
    exact e_got rfl
   apply a_take (L' := [true, true, true, true, true, true, true, true, true, true, true, true, true, true, true, true, true, false, false, false, false, false]) 16 rfl (by kernel_rfl) (by kernel_rfl) (by kernel_rfl) rfl rfl rfl rfl rfl (⟨(Own.ik (readF_rows X.abs (i : Int)) (hw8.ok mem1)), hw8.ok mem0⟩)
   ·intro wS sS
    refine l_move rfl rfl rfl (l_nil ?_)
    exact e_got rfl
   apply a_take (L' := [true, true, true, true, true, true, true, true, true, true, true, true, true, true, true, true, true, true, false, false, false, false]) 17 rfl (by kernel_rfl) (by kernel_rfl) (by kernel_rfl) rfl rfl rfl rfl rfl (⟨(Own.ik (readF_rows X.abs (i : Int)) (hw8.ok mem1)), hw8.ok mem0⟩)
   ·intro wS sS
    refine l_move rfl rfl rfl (l_nil ?_)
    exact e_got rfl
   apply a_take (L' := [true, true, true, true, true, true, true, true, true, true, true, true, true, true, true, true, true, true, true, false, false, false]) 18 rfl (by kernel_rfl) (by kernel_rfl) (by kernel_rfl) rfl rfl rfl rfl rfl (⟨(Own.ik (readF_rows X.abs (i : Int)) (hw8.ok mem1)), hw8.ok mem0⟩)
   ·intro wS sS
    refine l_move rfl rfl rfl (l_nil ?_)
    exact e_got rfl
   refine a_one (L' := [true, true, true, true, true, true, true, true, true, true, true, true, true, true, true, true, true, true, true, true, false, false]) 19 (by kernel_rfl) rfl rfl ?_
   refine l_callp rfl rfl Try.func20 rfl rfl (.cons rfl (.cons rfl .nil)) (CompleteG b X hiv.wf.sgX (whereS (l.getD k 0)).1 w7.drew (hGF.arg hw8)) ?_
   refine l_nil ?_
   refine e_any (⟨(Own.ik (readF_rows X.abs (i : Int)) (hw8.ok mem1)), hw8.ok mem0⟩) ?_
   apply a_take (L' := [true, true, true, true, true, true, true, true, true, true, true, true, true, true, true, true, true, true, true, true, true, false]) 20 rfl (by kernel_rfl) (by kernel_rfl) (by kernel_rfl) rfl rfl rfl rfl rfl (⟨(Own.ik (readF_rows X.abs (i : Int)) (hw8.ok mem1)), hw8.ok mem0⟩)
   ·intro wS sS
    first | refine l_notd rfl rfl rfl ?_ | refine l_not rfl rfl rfl ?_
    refine l_turn (s := 90) (v' := .bool false) rfl (by rw [hdk]; rfl) ?_
    refine l_nil ?_
    exact e_got rfl
   apply a_take (L' := [true, true, true, true, true, true, true, true, true, true, true, true, true, true, true, true, true, true, true, true, true, true]) 21 rfl (by kernel_rfl) (by kernel_rfl) (by kernel_rfl) rfl rfl rfl rfl rfl (⟨(Own.ik (readF_rows X.abs (i : Int)) (hw8.ok mem1)), hw8.ok mem0⟩)
   ·intro wS sS
    refine l_pick_f rfl rfl rfl rfl ?_
    refine l_nil ?_
    exact e_got rfl
   refine a_done (by kernel_rfl) ?_
   refine e_then ?_
   refine c_keep [0, 1, 5, 6, 7, 91] (.cons rfl (.cons rfl (.cons rfl (.cons rfl (.cons rfl (.cons rfl .nil)))))) ?_
   refine c_cond_f rfl rfl ?_
   refine c_skip ?_
   refine e_blk ?_
   refine e_then ?_
   refine c_keep [0, 1, 5, 6, 7] (.cons rfl (.cons rfl (.cons rfl (.cons rfl (.cons rfl .nil))))) ?_
   refine c_region (l_move rfl rfl rfl ?_)
   refine l_add rfl rfl rfl rfl (w_i64 (by omega)) ?_
   refine l_assign rfl rfl rfl (l_nil ?_)
   have hw9 := St.del .head hw8
   try clear hw8
   refine e_againk (i := (k)) (k + 1) ?_ ?_ (.cons rfl (.cons rfl (.cons rfl (.cons rfl .nil)))) ?_
   ·first | omega | (simp; omega)
   ·exact ⟨hw9, by omega⟩
   ·exact (.cons rfl (by first | rfl | (refine congrArg (Value.int _) ?_; omega)) .nil)
  ·skip
   refine c_exit ?_
   refine e_then_exit ?_
   refine e_then_exit ?_
   refine e_blk_exit ?_
   refine e_blk ?_
   refine e_then ?_
   refine c_keep [0, 1, 5] (.cons rfl (.cons rfl (.cons rfl .nil))) ?_
   refine c_region (l_move rfl rfl rfl ?_)
   refine l_add rfl rfl rfl rfl (w_i64 (by omega)) ?_
   refine l_assign rfl rfl rfl (l_nil ?_)
   have hw10 := St.del .head hw4
   try clear hw4
   refine e_againk (i := (i)) (i + 1) ?_ ?_ (.cons rfl (.cons rfl .nil)) ?_
   ·first | omega | (simp; omega)
   ·exact ⟨hw10, by omega⟩
   ·exact (.cons rfl (by first | rfl | (refine congrArg (Value.int _) ?_; omega)) .nil)
 ·skip
  refine c_exit ?_
  refine e_then_exit ?_
  refine e_then_exit ?_
  refine e_blk_exit ?_
  refine e_then ?_
  refine c_keep [] .nil ?_
  refine c_seq (c_region (l_assign rfl rfl rfl (l_nil (e_then ?_))))
  refine c_ret ?_
  refine e_done1 Try.results27 rfl ?_
  refine ⟨_, rfl, ?_⟩
  exact ⟨rfl, hw1.grows⟩
end Go.Proofs.Ytgfkagaacdblbaa.W
