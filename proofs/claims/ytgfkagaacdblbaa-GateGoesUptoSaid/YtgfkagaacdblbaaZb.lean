/- the law GateOnce -/
import Derived.Test.YtgfkagaacdblbaaZa
set_option linter.unusedVariables false
set_option linter.unusedSimpArgs false
set_option maxRecDepth 10000
namespace Go.Proofs.Ytgfkagaacdblbaa.W
open Go.Vc Go.RowKit
theorem done_step {G : GW} {i : Nat} (hw : Wf G) (hm : mayG G i = true) {s : Nat} (hd : (sgN G s).done = true) : (sgN (stepG G i) s).done = true := by
 obtain ⟨h, h', y', hi, hih, hv, e⟩ := step_of hm
 rw [e]
 have hsl : wantN h < G.sg.length := by rw [hw.sg]; exact (want_bd h).2
 show ((G.sg.set (wantN h) y').getD s ⟨0, 0, false⟩).done = true
 rw [getDset_ hsl]
 split
 ·rename_i es
  have hd2 : (sgN G (wantN h)).done = true := by rw [← es]; exact hd
  cases hv <;> first | exact hd2 | rfl | simp_all
 ·exact hd
theorem lay_step {G : GW} {i : Nat} {hd : Hd} (hw : Wf G) (hi : G.hs[i]? = some hd) (h2 : hd.line = 2) : (sgF (stepG G i) (wantH hd)).laid = (sgF G (wantH hd)).laid + 1 := by
 obtain ⟨e, hb⟩ := want_bd hd
 rw [e, sgF_nat hb, sgF_nat hb]
 have es : stepG G i = ⟨G.hs.set i (stepH (wantH hd) hd (sgN G (wantN hd))).1, G.sg.set (wantN hd) (stepH (wantH hd) hd (sgN G (wantN hd))).2, (i + 1) % G.hs.length⟩ := by
  unfold stepG
  rw [hi]
 rw [es]
 show ((G.sg.set (wantN hd) _).getD (wantN hd) ⟨0, 0, false⟩).laid = _
 rw [getDset_ (by rw [hw.sg]; exact hb), if_pos rfl]
 unfold stepH
 rw [if_pos h2]
theorem sg_bd {G : GW} (hw : Wf G) {s : Nat} (hs : s < 41) : (firstS (s : Int)).2.1 = (segLen (s : Int) : Int) ∧ 0 ≤ (sgF G (s : Int)).built ∧ (sgF G (s : Int)).built ≤ 1 ∧ (sgF G (s : Int)).laid ≤ segLen (s : Int) ∧ ((sgF G (s : Int)).done = true → (sgF G (s : Int)).built = 1 ∧ (sgF G (s : Int)).laid = segLen (s : Int)) := by
 rw [sgF_nat hs]
 have hfl : 0 ≤ (firstS (s : Int)).2.1 := by
  unfold firstS
  rw [if_neg (by omega)]
  dsimp only
  split <;> omega
 refine ⟨by unfold segLen; omega, ?_⟩
 rcases hw.sok s _ (hw.at hs) with ⟨h1, h2, h3⟩ | ⟨h1, h2, h3⟩ | ⟨h1, h2, h3⟩
 ·rw [h1, h2, h3]; exact ⟨by omega, by omega, by omega, fun h => by cases h⟩
 ·rw [h1, h2]; exact ⟨by omega, by omega, h3, fun h => by cases h⟩
 ·rw [h1, h2, h3]; exact ⟨by omega, by omega, by omega, fun _ => ⟨rfl, rfl⟩⟩
def boolC (F : List Bool) : List Value := F.map Value.bool
theorem boolC_len (F : List Bool) : (boolC F).length = F.length := by simp [boolC]
theorem boolC_at {F : List Bool} {t : Nat} (h : t < F.length) : (boolC F)[t]? = some (.bool (F.getD t false)) := by simp [boolC, List.getD, h]
theorem boolC_set (F : List Bool) (t : Nat) (b : Bool) : boolC (F.set t b) = (boolC F).set t (.bool b) := by simp [boolC, List.map_set]
def DoneF (G : GW) (F : List Bool) : Prop := F.length = 41 ∧ ∀ t, t < 41 → F.getD t false = true → (sgF G (t : Int)).done = true
theorem DoneF.zero (G : GW) : DoneF G (List.replicate 41 false) := by
 refine ⟨by simp, fun t ht h => ?_⟩
 have e : (List.replicate 41 false).getD t false = false := by
  rw [List.getD_eq_getElem?_getD, List.getElem?_replicate, if_pos ht]
  rfl
 rw [e] at h
 cases h
theorem DoneF.set {G : GW} {F : List Bool} (h : DoneF G F) {s : Nat} : DoneF G (F.set s (sgF G (s : Int)).done) := by
 refine ⟨by simpa using h.1, fun t ht => ?_⟩
 by_cases e : t = s
 ·subst e
  rw [List.getD_eq_getElem?_getD, List.getElem?_set_self (by have := h.1; omega)]
  exact id
 ·rw [List.getD_eq_getElem?_getD, List.getElem?_set_ne (fun h => e h.symm), ← List.getD_eq_getElem?_getD]
  exact h.2 t ht
theorem DoneF.step {G : GW} {F : List Bool} {i : Nat} (hw : Wf G) (hm : mayG G i = true) (h : DoneF G F) : DoneF (stepG G i) F :=
 ⟨h.1, fun t ht hF => by
  have := h.2 t ht hF
  rw [sgF_nat ht] at this ⊢
  exact done_step hw hm this⟩
theorem doRes_at {G : GW} {p : Int} (hm : movesG G ≠ []) : ∃ (kk i : Nat), whichI p (movesG G).length = (kk : Int) ∧ (movesG G)[kk]? = some i ∧ kk < (movesG G).length ∧ (doRes G (kk : Int)).1 = 0 ∧ (doRes G (kk : Int)).2 = stepG G i ∧ i < G.hs.length ∧ mayG G i = true := by
 have hpos : 0 < (movesG G).length := List.length_pos_iff.2 hm
 have hb := whichI_bd (p := p) (show (0 : Int) < ((movesG G).length : Int) by omega)
 obtain ⟨i, hi⟩ : ∃ i, (movesG G)[(whichI p (movesG G).length).toNat]? = some i := ⟨_, List.getElem?_eq_getElem (by omega)⟩
 obtain ⟨h1, h2⟩ := moves_mem (List.mem_of_getElem? hi)
 have e : doRes G (((whichI p (movesG G).length).toNat : Nat) : Int) = (0, stepG G i) := by
  unfold doRes
  rw [if_pos (by omega)]
  unfold afterDo
  rw [Int.toNat_natCast, hi]
 exact ⟨_, i, by omega, hi, by omega, by rw [e], by rw [e], h1, h2⟩
theorem whichR (p n : Int) (hp : -9223372036854775808 ≤ p ∧ p ≤ 9223372036854775807) (hn : 0 < n ∧ n ≤ 100000) (w : World) :
  CallsV P 22 [.int .i64 p, .int .i64 n] w fun r w' => r = .int .i64 (whichI p n) ∧ w = w' := by
 refine enterW Try.func22 rfl Try.ntmps22 rfl ?_
 have hwb := whichI_bd (p := p) hn.1
 have htg := tmod_gt (p := p) hn.1
 have htl := Int.tmod_lt_of_pos p hn.1
 refine c_seq (c_region (l_assign rfl rfl rfl (l_nil (e_then ?_))))
 refine c_keep [0, 1] (.cons rfl (.cons rfl .nil)) ?_
 refine c_seq (c_region (l_move rfl rfl rfl (l_move rfl rfl rfl ?_)))
 refine l_rem rfl rfl rfl rfl (by omega) rfl ?_
 refine l_assign rfl rfl rfl (l_nil (e_then ?_))
 refine c_keep [1, 5] (.cons rfl (.cons rfl .nil)) ?_
 refine c_cutk (ι := Int) (fun (kk : Int) (w' : World) => w = w' ∧ kk = whichI p n) (fun (kk : Int) => [(5, .int .i64 kk)]) [] .nil ?_ ?_
 ·skip
  refine c_seq (c_region (l_move rfl rfl rfl ?_))
  refine l_lss rfl rfl rfl rfl ?_
  refine l_nil (e_then ?_)
  refine c_keep [1, 5, 10] (.cons rfl (.cons rfl (.cons rfl .nil))) ?_
  first | refine c_cond rfl (fun hc0 => ?_) (fun hc0 => ?_) | refine c_condb rfl (fun hc0 => ?_) (fun hc0 => ?_)
  ·skip
   refine c_region (l_move rfl rfl rfl (l_move rfl rfl rfl ?_))
   refine l_add rfl rfl rfl rfl (w_i64 (by omega)) ?_
   refine l_assign rfl rfl rfl (l_nil ?_)
   refine e_meetk (p.tmod n + n) ?_ .nil ?_
   ·exact ⟨rfl, by unfold whichI; rw [if_pos (by assumption)]⟩
   ·exact (.cons rfl (by first | rfl | (refine congrArg (Value.int _) ?_; omega)) .nil)
  ·skip
   refine c_skip ?_
   refine e_meetk (p.tmod n) ?_ .nil ?_
   ·exact ⟨rfl, by unfold whichI; rw [if_neg (by assumption)]⟩
   ·exact (.cons rfl (by first | rfl | (refine congrArg (Value.int _) ?_; omega)) .nil)
 rintro kk _ ⟨rfl, hkk⟩
 show RunC P _ _ _ (_ :: _) _
 refine c_seq (c_region (l_move rfl rfl rfl (l_assign rfl rfl rfl (l_nil (e_then ?_)))))
 refine c_keep [4] (.cons rfl .nil) ?_
 refine c_ret ?_
 refine e_done1 Try.results22 rfl ?_
 refine ⟨_, rfl, ?_⟩
 exact ⟨by rw [hkk], rfl⟩
theorem latestL (b : Nat) (X : Gm) (ls : List (List Int)) (hok : okA ls) (hiv : Iv ls X.abs) (i : Nat) (l : List Int) (hlj : ls[i]? = some l) (x : Value) (w : World) (hGF : GF b X w) (hx : IV w x (ints .i64 l)) :
  CallsV P 26 [ptr b, x, .int .i64 (i : Int)] w fun r w' => r = .bool true ∧ Grow w w' [] := by
 refine enterW Try.func26 rfl Try.ntmps26 rfl ?_
 have hw0 := St.start w
 have hn16 := hok.1
 have hi1 := (List.getElem?_eq_some_iff.1 hlj).1
 have hlok := hok.2 l (List.mem_of_getElem? hlj)
 have hl64 := hlok.1
 have hRg : Rg (-342) 308 l := hlok.2
 obtain ⟨n, hnl, hrd, hhn, hdn⟩ := hiv.at hlj
 have hrn : (readF X.abs (i : Int)).length = n := by rw [hrd, readA_len, List.length_take]; omega
 refine c_seq (c_region (l_assign rfl rfl rfl (l_nil (e_then ?_))))
 refine c_keep [0, 1, 2] (.cons rfl (.cons rfl (.cons rfl .nil))) ?_
 refine c_seq (c_region (l_move rfl rfl rfl (l_move rfl rfl rfl ?_)))
 refine l_call rfl rfl Try.func15 rfl rfl (.cons rfl (.cons rfl .nil)) (ReadG b X hiv.wf (i : Int) w (hGF.arg hw0)) ?_
 rintro ra w1 ⟨_, rfl, hG⟩
 have hw1 := hG _ _ _ _ hw0
 try clear hG hw0
 simp only [List.cons_append, List.nil_append] at hw1
 refine l_assign rfl rfl rfl (l_nil (e_then ?_))
 refine c_keep [0, 1, 2, 7] (.cons rfl (.cons rfl (.cons rfl (.cons rfl .nil)))) ?_
 refine c_seq (c_seq (c_region (l_move rfl rfl rfl ?_)))
 refine k_len rfl rfl Try.underlying34 rfl (Own.ik (readF_rows X.abs (i : Int)) (hw1.ok mem0)) ?_
 refine l_move rfl rfl rfl ?_
 refine v_leni rfl rfl Try.underlying23 rfl (hw1.iarg hx) ?_
 refine l_gtr rfl rfl rfl rfl ?_
 refine l_turn (s := 21) (v' := .bool false) rfl (by rw [hrn]; simp; omega) ?_
 refine l_move rfl rfl rfl (l_move rfl rfl rfl (l_move rfl rfl rfl ?_))
 refine l_call rfl rfl Try.func18 rfl rfl (.cons rfl (.cons rfl .nil)) (HandG b X hiv.wf (i : Int) w1 (hGF.arg hw1)) ?_
 rintro _ w2 ⟨rfl, hG⟩
 have hw2 := hG _ _ _ _ hw1
 try clear hG hw1
 simp only [List.cons_append, List.nil_append] at hw2
 refine l_fieldv (show fieldTy P 41 1 = some (1, true) by kernel_rfl) rfl rfl rfl rfl ?_
 refine l_move rfl rfl rfl ?_
 refine k_len rfl rfl Try.underlying34 rfl (Own.ik (readF_rows X.abs (i : Int)) (hw2.ok mem0)) ?_
 refine l_neq rfl rfl rfl rfl ?_
 refine l_turn (s := 29) (v' := .bool false) rfl (by rw [hhn, hrn]; simp) ?_
 refine l_pick_f rfl rfl rfl rfl ?_
 refine l_nil (e_then ?_)
 refine c_keep [0, 1, 7, 30] (.cons rfl (.cons rfl (.cons rfl (.cons rfl .nil)))) ?_
 refine c_cond_f rfl rfl ?_
 refine c_skip (e_then ?_)
 refine c_keep [0, 1, 7] (.cons rfl (.cons rfl (.cons rfl .nil))) ?_
 refine c_seq (c_seq (c_region (l_move rfl rfl rfl ?_)))
 refine k_len rfl rfl Try.underlying34 rfl (Own.ik (readF_rows X.abs (i : Int)) (hw2.ok mem0)) ?_
 refine l_eql rfl rfl rfl rfl ?_
 refine l_nil (e_then ?_)
 refine c_keep [0, 1, 7, 33] (.cons rfl (.cons rfl (.cons rfl (.cons rfl .nil)))) ?_
 first | refine c_cond rfl (fun hc1 => ?_) (fun hc1 => ?_) | refine c_condb rfl (fun hc1 => ?_) (fun hc1 => ?_)
 ·skip
  refine c_seq (c_region (l_assign rfl rfl rfl (l_nil (e_then ?_))))
  refine c_keep [6] (.cons rfl .nil) ?_
  refine c_ret ?_
  refine e_then_ret ?_
  refine e_done1 Try.results26 rfl ?_
  refine ⟨_, rfl, ?_⟩
  have hw3 := St.del .head hw2
  try clear hw2
  exact ⟨rfl, hw3.grows⟩
 ·skip
  refine c_skip (e_then ?_)
  refine c_keep [0, 1, 7] (.cons rfl (.cons rfl (.cons rfl .nil))) ?_
  refine c_seq (c_region ?_)
  have hn1 : 0 < n := by omega
  have hq0 := hRg.get (j := n - 1) (by omega)
  have hrw : (readF X.abs (i : Int))[n - 1]? = some (wrow (entS (l.getD (n - 1) 0)).1) := by rw [hrd]; exact readT_at hnl (by omega)
  have he0 := ent0 hq0
  have hdk := hdn (n - 1) (by omega)
  refine l_move rfl rfl rfl (l_move rfl rfl rfl ?_)
  refine k_len rfl rfl Try.underlying34 rfl (Own.ik (readF_rows X.abs (i : Int)) (hw2.ok mem0)) ?_
  refine l_sub rfl rfl rfl rfl (w_i64 (by omega)) ?_
  refine l_turn (s := 38) (v' := .int .i64 ((n - 1 : Nat) : Int)) rfl (congrArg (Value.int .i64) (by omega)) ?_
  refine v_getr (j := n - 1) rfl rfl rfl rfl Try.underlying23 tz3 Try.underlying3 rfl rfl (by first | exact hw2.ik (by assumption) mem0 | exact hw2.iarg hx | assumption) (by assumption) rfl (by omega) (by first | omega | (simp; done) | (simp; omega)) (fun hb6_4 => ?_)
  refine l_call rfl rfl Try.func43 rfl rfl (.cons rfl .nil) (entryP (l.getD (n - 1) 0) (by omega) w2) ?_
  rintro _ w4 ⟨rfl, hG⟩
  have hw4 := hG _ _ _ _ hw2
  try clear hG hw2
  simp only [List.cons_append, List.nil_append] at hw4
  refine l_move rfl rfl rfl (l_extract rfl rfl rfl rfl (l_extract rfl rfl rfl rfl (l_extract rfl rfl rfl rfl ?_)))
  refine l_alloc hw4 ta77 rfl rfl (fun b6_11 w5 hw5 => ?_)
  try clear hw4
  refine l_store_blks hw5 .head (.zero (.zero .nil)) rfl tz77 rfl rfl (by first | (simp [Value.oneCell']; done) | (intro u hu; simp only [List.mem_cons, List.not_mem_nil, or_false] at hu; rcases hu with rfl | rfl <;> first | rfl | assumption)) (fun w6 hw6 => ?_)
  try clear hw5
  refine l_assign rfl rfl rfl (l_assign rfl rfl rfl (l_nil (e_then ?_)))
  refine c_keep [0, 1, 7, 8, 10] (.cons rfl (.cons rfl (.cons rfl (.cons rfl (.cons rfl .nil))))) ?_
  refine c_seq (c_region (l_move rfl rfl rfl (l_move rfl rfl rfl ?_)))
  refine k_len rfl rfl Try.underlying34 rfl (Own.ik (readF_rows X.abs (i : Int)) (hw6.ok mem1)) ?_
  refine l_sub rfl rfl rfl rfl (w_i64 (by omega)) ?_
  refine l_turn (s := 49) (v' := .int .i64 ((n - 1 : Nat) : Int)) rfl (congrArg (Value.int .i64) (by omega)) ?_
  refine v_getr (j := n - 1) rfl rfl rfl rfl Try.underlying23 tz3 Try.underlying3 rfl rfl (by first | exact hw6.ibl mem0 | exact hw6.ik (by assumption) mem1 | exact hw6.iarg hx | assumption) (by assumption) rfl (by omega) (by first | omega | (simp; done) | (simp; omega)) (fun hb7_4 => ?_)
  refine l_callp rfl rfl Try.func29 rfl rfl (.cons rfl .nil) (whereP (l.getD (n - 1) 0) (by omega) _) ?_
  refine l_move rfl rfl rfl (l_extract rfl rfl rfl rfl (l_extract rfl rfl rfl rfl (l_extract rfl rfl rfl rfl (l_assign rfl rfl rfl (l_assign rfl rfl rfl ?_)))))
  refine l_assign rfl rfl rfl (l_nil (e_then ?_))
  refine c_keep [0, 7, 8, 10, 11] (.cons rfl (.cons rfl (.cons rfl (.cons rfl (.cons rfl .nil))))) ?_
  refine c_seq ?_
  have hw7 := hw6.drewn
  try clear hw6
  obtain ⟨A8, c8, hA8⟩ : ∃ A c, ra = .slice (some A) (readF X.abs (i : Int)).length c := by
   obtain ⟨_, A, c, e, _, hs⟩ := (Own.ik (readF_rows X.abs (i : Int)) (hw7.ok mem1))
   obtain ⟨ad, rfl⟩ := hs.some_ (by rw [(readF_rows _ _).len]; omega)
   exact ⟨ad, c, e⟩
  refine c_any (n := 19) [false, false, false, false, false, false, false, false, false, false, false, false, false, false, false, false, false, false, false] (fun wS => IK wS 2 ra (readF X.abs (i : Int)) ∧ (As.blk b6_11 77 (wrow (entS (l.getD (n - 1) 0)).1)).ok wS) (by kernel_rfl) rfl rfl ?_
  apply a_take (L' := [true, false, false, false, false, false, false, false, false, false, false, false, false, false, false, false, false, false, false]) 0 rfl (by kernel_rfl) (by kernel_rfl) (by kernel_rfl) rfl rfl rfl rfl rfl (⟨(Own.ik (readF_rows X.abs (i : Int)) (hw7.ok mem1)), hw7.ok mem0⟩)
  ·intro wS sS
   refine l_move rfl rfl rfl (l_nil ?_)
   exact e_got rfl
  refine a_one (L' := [true, true, false, false, false, false, false, false, false, false, false, false, false, false, false, false, false, false, false]) 1 (by kernel_rfl) rfl rfl ?_
  refine l_callp rfl rfl Try.func10 rfl rfl (.cons rfl .nil) (numL28 _ _) ?_
  refine l_nil ?_
  refine e_any (⟨(Own.ik (readF_rows X.abs (i : Int)) (hw7.ok mem1)), hw7.ok mem0⟩) ?_
  apply a_take (L' := [true, true, true, false, false, false, false, false, false, false, false, false, false, false, false, false, false, false, false]) 2 rfl (by kernel_rfl) (by kernel_rfl) (by kernel_rfl) rfl rfl rfl rfl rfl (⟨(Own.ik (readF_rows X.abs (i : Int)) (hw7.ok mem1)), hw7.ok mem0⟩)
  ·intro wS sS
   refine l_eql rfl rfl rfl rfl ?_
   refine l_turn (s := 58) (v' := .bool true) rfl (by rw [he0.1]; rfl) ?_
   refine l_nil ?_
   exact e_got rfl
  apply a_take (L' := [true, true, true, true, false, false, false, false, false, false, false, false, false, false, false, false, false, false, false]) 3 rfl (by kernel_rfl) (by kernel_rfl) (by kernel_rfl) rfl rfl rfl rfl rfl (⟨(Own.ik (readF_rows X.abs (i : Int)) (hw7.ok mem1)), hw7.ok mem0⟩)
  ·intro wS sS
   refine l_move rfl rfl rfl (l_nil ?_)
   exact e_got rfl
  apply a_take (L' := [true, true, true, true, true, false, false, false, false, false, false, false, false, false, false, false, false, false, false]) 4 rfl (by kernel_rfl) (by kernel_rfl) (by kernel_rfl) rfl rfl rfl rfl rfl (⟨(Own.ik (readF_rows X.abs (i : Int)) (hw7.ok mem1)), hw7.ok mem0⟩)
  ·intro wS sS
   refine l_move rfl rfl rfl (l_nil ?_)
   exact e_got rfl
  apply a_take (L' := [true, true, true, true, true, true, false, false, false, false, false, false, false, false, false, false, false, false, false]) 5 rfl (by kernel_rfl) (by kernel_rfl) (by kernel_rfl) rfl rfl rfl rfl rfl (⟨(Own.ik (readF_rows X.abs (i : Int)) (hw7.ok mem1)), hw7.ok mem0⟩)
  ·intro wS sS
   refine l_move rfl rfl rfl (l_nil ?_)
   exact e_got rfl
  apply a_take (L' := [true, true, true, true, true, true, false, false, false, false, true, false, false, false, false, false, false, false, false]) 10 rfl (by kernel_rfl) (by kernel_rfl) (by kernel_rfl) rfl rfl rfl rfl rfl (⟨(Own.ik (readF_rows X.abs (i : Int)) (hw7.ok mem1)), hw7.ok mem0⟩)
  ·intro wS sS
   refine l_load_agg (blk_st sS.2) mem0 rfl rfl Try.underlying77 rfl tz77 rfl (.take (.take .nil)) ?_
   refine l_nil ?_
   exact e_got rfl
  refine a_one (L' := [true, true, true, true, true, true, true, false, false, false, true, false, false, false, false, false, false, false, false]) 6 (by kernel_rfl) rfl rfl ?_
  refine k_len rfl rfl Try.underlying34 rfl (Own.ik (readF_rows X.abs (i : Int)) (hw7.ok mem1)) ?_
  refine l_nil ?_
  refine e_any (⟨(Own.ik (readF_rows X.abs (i : Int)) (hw7.ok mem1)), hw7.ok mem0⟩) ?_
  apply a_take (L' := [true, true, true, true, true, true, true, true, false, false, true, false, false, false, false, false, false, false, false]) 7 rfl (by kernel_rfl) (by kernel_rfl) (by kernel_rfl) rfl rfl rfl rfl rfl (⟨(Own.ik (readF_rows X.abs (i : Int)) (hw7.ok mem1)), hw7.ok mem0⟩)
  ·intro wS sS
   refine l_sub rfl rfl rfl rfl (w_i64 (by omega)) ?_
   refine l_turn (s := 63) (v' := .int .i64 ((n - 1 : Nat) : Int)) rfl (congrArg (Value.int .i64) (by omega)) ?_
   refine l_nil ?_
   exact e_got rfl
  apply a_take (L' := [true, true, true, true, true, true, true, true, true, false, true, false, false, false, false, false, false, false, false]) 8 rfl (by kernel_rfl) (by kernel_rfl) (by kernel_rfl) rfl rfl rfl rfl rfl (⟨(Own.ik (readF_rows X.abs (i : Int)) (hw7.ok mem1)), hw7.ok mem0⟩)
  ·intro wS sS
   refine k_addrx (j := n - 1) rfl rfl Try.underlying34 tz77 (by decide) rfl rfl sS.1 hA8 rfl (by omega) ?_
   refine l_nil ?_
   exact e_got rfl
  apply a_take (L' := [true, true, true, true, true, true, true, true, true, true, true, false, false, false, false, false, false, false, false]) 9 rfl (by kernel_rfl) (by kernel_rfl) (by kernel_rfl) rfl rfl rfl rfl rfl (⟨(Own.ik (readF_rows X.abs (i : Int)) (hw7.ok mem1)), hw7.ok mem0⟩)
  ·intro wS sS
   refine k_load (j := n - 1) rfl rfl Try.underlying77 rfl tz77 rfl hA8 sS.1 hrw ?_
   refine l_nil ?_
   exact e_got rfl
  apply a_take (L' := [true, true, true, true, true, true, true, true, true, true, true, true, false, false, false, false, false, false, false]) 11 rfl (by kernel_rfl) (by kernel_rfl) (by kernel_rfl) rfl rfl rfl rfl rfl (⟨(Own.ik (readF_rows X.abs (i : Int)) (hw7.ok mem1)), hw7.ok mem0⟩)
  ·intro wS sS
   refine l_eqlA rfl rfl fl77 rfl rfl (.int rfl rfl (.int rfl rfl .nil)) ?_
   refine l_turn (s := 67) (v' := .bool true) rfl (by simp) ?_
   refine l_nil ?_
   exact e_got rfl
  apply a_take (L' := [true, true, true, true, true, true, true, true, true, true, true, true, true, false, false, false, false, false, false]) 12 rfl (by kernel_rfl) (by kernel_rfl) (by kernel_rfl) rfl rfl rfl rfl rfl (⟨(Own.ik (readF_rows X.abs (i : Int)) (hw7.ok mem1)), hw7.ok mem0⟩)
  ·intro wS sS
   refine l_pick_t rfl rfl rfl rfl ?_
   refine l_nil ?_
   exact e_got rfl
  apply a_take (L' := [true, true, true, true, true, true, true, true, true, true, true, true, true, true, false, false, false, false, false]) 13 rfl (by kernel_rfl) (by kernel_rfl) (by kernel_rfl) rfl rfl rfl rfl rfl (⟨(Own.ik (readF_rows X.abs (i : Int)) (hw7.ok mem1)), hw7.ok mem0⟩)
  ·intro wS sS
   refine l_move rfl rfl rfl (l_nil ?_)
   exact e_got rfl
  apply a_take (L' := [true, true, true, true, true, true, true, true, true, true, true, true, true, true, true, false, false, false, false]) 14 rfl (by kernel_rfl) (by kernel_rfl) (by kernel_rfl) rfl rfl rfl rfl rfl (⟨(Own.ik (readF_rows X.abs (i : Int)) (hw7.ok mem1)), hw7.ok mem0⟩)
  ·intro wS sS
   refine l_move rfl rfl rfl (l_nil ?_)
   exact e_got rfl
  apply a_take (L' := [true, true, true, true, true, true, true, true, true, true, true, true, true, true, true, true, false, false, false]) 15 rfl (by kernel_rfl) (by kernel_rfl) (by kernel_rfl) rfl rfl rfl rfl rfl (⟨(Own.ik (readF_rows X.abs (i : Int)) (hw7.ok mem1)), hw7.ok mem0⟩)
  ·intro wS sS
   refine l_move rfl rfl rfl (l_nil ?_)
   exact e_got rfl
  refine a_one (L' := [true, true, true, true, true, true, true, true, true, true, true, true, true, true, true, true, true, false, false]) 16 (by kernel_rfl) rfl rfl ?_
  refine l_callp rfl rfl Try.func20 rfl rfl (.cons rfl (.cons rfl .nil)) (CompleteG b X hiv.wf.sgX (whereS (l.getD (n - 1) 0)).1 w6.drew (hGF.arg hw7)) ?_
  refine l_turn (s := 72) (v' := .bool true) rfl (by rw [hdk]) ?_
  refine l_nil ?_
  refine e_any (⟨(Own.ik (readF_rows X.abs (i : Int)) (hw7.ok mem1)), hw7.ok mem0⟩) ?_
  apply a_take (L' := [true, true, true, true, true, true, true, true, true, true, true, true, true, true, true, true, true, true, false]) 17 rfl (by kernel_rfl) (by kernel_rfl) (by kernel_rfl) rfl rfl rfl rfl rfl (⟨(Own.ik (readF_rows X.abs (i : Int)) (hw7.ok mem1)), hw7.ok mem0⟩)
  ·intro wS sS
   refine l_pick_t rfl rfl rfl rfl ?_
   refine l_nil ?_
   exact e_got rfl
  apply a_take (L' := [true, true, true, true, true, true, true, true, true, true, true, true, true, true, true, true, true, true, true]) 18 rfl (by kernel_rfl) (by kernel_rfl) (by kernel_rfl) rfl rfl rfl rfl rfl (⟨(Own.ik (readF_rows X.abs (i : Int)) (hw7.ok mem1)), hw7.ok mem0⟩)
  ·intro wS sS
   refine l_assign rfl rfl rfl (l_nil ?_)
   exact e_got rfl
  refine a_done (by kernel_rfl) ?_
  refine e_then ?_
  refine c_keep [6] (.cons rfl .nil) ?_
  refine c_ret ?_
  refine e_done1 Try.results26 rfl ?_
  refine ⟨_, rfl, ?_⟩
  have hw8 := St.del (.tail .head) hw7
  try clear hw7
  have hw9 := St.del .head hw8
  try clear hw8
  exact ⟨rfl, hw9.grows⟩
theorem segLen_le6 (s : Int) : segLen s ≤ 16 := by
 unfold segLen firstS
 split
 ·decide
 ·dsimp only
  split <;> omega
theorem laid_le {G : GW} (hw : Wf G) (s : Int) : (sgF G s).laid ≤ 16 := by
 unfold sgF
 split
 ·rename_i h
  have h2 := hw.sok s.toNat _ (hw.at (s := s.toNat) (by omega))
  have h3 := segLen_le6 ((s.toNat : Nat) : Int)
  show (sgN G s.toNat).laid ≤ 16
  rcases h2 with h | h | h <;> omega
 ·decide
theorem gateOnceL (v : Value) (vs : List Value) (ls : List (List Int)) (hvl : vs.length = ls.length) (hrg : ∀ l ∈ ls, Rg (-9223372036854775808) 9223372036854775807 l) (v1 : Value) (l1 : List Int) (hrl1 : Rg (-9223372036854775808) 9223372036854775807 l1) (w : World) (hv : IV w v vs) (hvs : ∀ (j : Nat) (x : Value) (l : List Int), vs[j]? = some x → ls[j]? = some l → IV w x (ints .i64 l)) (hv1 : IV w v1 (ints .i64 l1)) :
  CallsV P 5 [v, v1] w fun r w' => r = .bool true ∧ Grow w w' [] := by
 refine enterW Try.func5 rfl Try.ntmps5 rfl ?_
 have hw0 := St.start w
 refine c_seq (c_region (l_assign rfl rfl rfl (l_nil (e_then ?_))))
 refine c_keep [0, 1] (.cons rfl (.cons rfl .nil)) ?_
 refine c_seq (c_region (l_move rfl rfl rfl ?_))
 refine l_call rfl rfl Try.func8 rfl rfl (.cons rfl .nil) (AsksL v vs ls hvl hrg w (hw0.iarg hv) (fun j x l h1 h2 => hw0.iarg (hvs j x l h1 h2))) ?_
 rintro vo w1 ⟨_, xs, rfl, hxs, hG⟩
 have hw1 := hG _ _ _ _ hw0
 try clear hG hw0
 simp only [List.cons_append, List.nil_append] at hw1
 refine l_assign rfl rfl rfl (l_nil (e_then ?_))
 refine c_keep [0, 1] (.cons rfl (.cons rfl .nil)) ?_
 refine c_seq (c_region (l_move rfl rfl rfl ?_))
 refine l_call rfl rfl Try.func9 rfl rfl (.cons rfl .nil) (newOk vo (xs.map Prod.fst) (asksF ls) (xs_len hxs) (by rw [xs_len hxs]; have := (asksF_ok ls).1; omega) (okA_rg (asksF_ok ls)) (asksF_ok ls) w1 (hw1.io mem0) (xs_iv (hw1.ok mem1) hxs)) ?_
 rintro _ w2 ⟨gb, gX, rfl, hgX, hG⟩
 have hw2 := hG _ _ _ _ hw1
 simp only [gW, List.cons_append, List.nil_append] at hw2
 try clear hX hw1
 refine l_move rfl rfl rfl (l_extract rfl rfl rfl rfl (l_extract rfl rfl rfl rfl (l_assign rfl rfl rfl (l_assign rfl rfl rfl (l_nil ?_)))))
 refine e_then ?_
 refine c_keep [0, 1, 5, 6] (.cons rfl (.cons rfl (.cons rfl (.cons rfl .nil)))) ?_
 refine c_seq (c_seq (c_region ?_))
 have hx16 : (xs.map Prod.fst).length ≤ 16 := by rw [xs_len hxs]; exact (asksF_ok ls).1
 have hIg : Iv (asksF ls) gX.abs := by rw [hgX]; exact newG_iv (asksF_ok ls)
 refine l_move rfl rfl rfl ?_
 refine l_callp rfl rfl Try.func10 rfl rfl (.cons rfl .nil) (numL28 _ _) ?_
 refine l_neq rfl rfl rfl rfl ?_
 refine l_turn (s := 28) (v' := .bool false) rfl (by rfl) ?_
 refine l_move rfl rfl rfl (l_move rfl rfl rfl ?_)
 refine l_eqlp (by kernel_rfl) rfl rfl rfl rfl ?_
 refine l_turn (s := 31) (v' := .bool false) rfl (by rfl) ?_
 refine l_pick_f rfl rfl rfl rfl ?_
 refine l_move rfl rfl rfl ?_
 refine l_call rfl rfl Try.func11 rfl rfl .nil (wakes28 w2) ?_
 rintro _ w3 ⟨rfl, hG⟩
 have hw3 := hG _ _ _ _ hw2
 try clear hG hw2
 simp only [List.cons_append, List.nil_append] at hw3
 first | refine l_notd rfl rfl rfl ?_ | refine l_not rfl rfl rfl ?_
 refine l_turn (s := 35) (v' := .bool false) rfl (by rfl) ?_
 refine l_pick_f rfl rfl rfl rfl ?_
 refine l_nil (e_then ?_)
 refine c_keep [0, 1, 5, 36] (.cons rfl (.cons rfl (.cons rfl (.cons rfl .nil)))) ?_
 refine c_cond_f rfl rfl ?_
 refine c_skip (e_then ?_)
 refine c_keep [0, 1, 5] (.cons rfl (.cons rfl (.cons rfl .nil))) ?_
 refine c_seq (c_region ?_)
 refine l_alloc hw3 ta49 rfl rfl (fun b5_0 w4 hw4 => ?_)
 try clear hw3
 refine l_nil (e_then (c_seq (c_seq (c_region ?_))))
 have hw5 := St.frontL (l := [_, _, _, _, _, _]) hw4
 simp only [List.cons_append, List.nil_append] at hw5
 try clear hw4
 have hw6 := St.frontL (l := [_, _, _, _, _, _]) hw5
 simp only [List.cons_append, List.nil_append] at hw6
 try clear hw5
 have hw7 := St.frontL (l := [_, _, _, _, _, _]) hw6
 simp only [List.cons_append, List.nil_append] at hw7
 try clear hw6
 have hw8 := St.frontL (l := [_, _, _, _, _, _]) hw7
 simp only [List.cons_append, List.nil_append] at hw8
 try clear hw7
 have hw9 := St.frontL (l := [_, _, _, _, _, _]) hw8
 simp only [List.cons_append, List.nil_append] at hw9
 try clear hw8
 have hw10 := St.frontL (l := [_, _, _, _, _, _]) hw9
 simp only [List.cons_append, List.nil_append] at hw10
 try clear hw9
 refine l_assign rfl rfl rfl (l_nil (e_then (c_block ?_)))
 refine c_loopk (ι := Nat × Gm × List Bool) (fun (z0 : Nat × Gm × List Bool) => match z0 with | ⟨i, Y, F⟩ => l1.length - i) (fun (z0 : Nat × Gm × List Bool) (w' : World) => match z0 with | ⟨i, Y, F⟩ => St w w.heap.size None' (gW gb Y ++ [As.ro 23 vo (xs.map Prod.fst), As.sep (xs.map (fun p : Value × List Int => As.ri 3 .i64 p.1 p.2)), As.blk b5_0 49 (boolC F)]) w' ∧ i ≤ l1.length ∧ Iv (asksF ls) Y.abs ∧ DoneF Y.abs F) (fun (z0 : Nat × Gm × List Bool) => match z0 with | ⟨i, Y, F⟩ => [(8, .int .i64 (i : Int))]) [0, 1, 5, 7] (0, gX, List.replicate 41 false) ?_ (.cons rfl (.cons rfl (.cons rfl (.cons rfl .nil)))) ?_ ?_
 ·exact ⟨hw10, by omega, hIg, DoneF.zero _⟩
 ·exact (.cons rfl (by first | rfl | (refine congrArg (Value.int _) ?_; omega)) .nil)
 rintro ⟨i, Y, F⟩ w11 ⟨hw11, hi, hIv, hDo⟩
 show RunC P _ _ _ (_ :: _) _
 simp only [gW, List.cons_append, List.nil_append] at hw11
 refine c_seq (c_seq (c_region (l_move rfl rfl rfl (l_move rfl rfl rfl ?_))))
 refine v_leni rfl rfl Try.underlying23 rfl (by first | exact hw11.ibl mem0 | exact hw11.ik (by assumption) mem1 | exact hw11.io mem2 | exact hw11.io mem4 | exact hw11.ibl mem6 | exact hw11.iarg hv | exact hw11.iarg hv1 | assumption) ?_
 refine l_lss rfl rfl rfl rfl ?_
 refine l_move rfl rfl rfl ?_
 apply l_and 2 [0, 1, 5, 7, 8] rfl rfl (.cons rfl (.cons rfl (.cons rfl (.cons rfl (.cons rfl (.cons rfl .nil)))))) rfl rfl (fun _ => rfl) rfl rfl rfl
 ·intro hg7_5
  refine l_move rfl rfl rfl ?_
  refine l_lss rfl rfl rfl rfl ?_
  refine l_nil ?_
  exact e_stays rfl (.cons rfl (congrArg Value.bool (decide_eq_true hg7_5).symm) (.cons rfl rfl (.cons rfl rfl (.cons rfl rfl (.cons rfl rfl (.cons rfl rfl .nil))))))
  all_goals infer_instance
 refine l_nil (e_then ?_)
 refine c_keep [0, 1, 5, 7, 8, 44] (.cons rfl (.cons rfl (.cons rfl (.cons rfl (.cons rfl (.cons rfl .nil)))))) ?_
 first | refine c_cond rfl (fun hc1 => ?_) (fun hc1 => ?_) | refine c_condb rfl (fun hc1 => ?_) (fun hc1 => ?_)
 ·skip
  refine c_skip (e_then ?_)
  refine c_keep [0, 1, 5, 7, 8] (.cons rfl (.cons rfl (.cons rfl (.cons rfl (.cons rfl .nil))))) ?_
  refine c_seq (c_block (c_seq (c_region ?_)))
  have hil1 : i < l1.length := by omega
  have hhl : Y.abs.hs.length = (asksF ls).length := hIv.lv.len
  have hxl := xs_len hxs
  have hmgl : (movesG Y.abs).length ≤ 16 := Nat.le_trans (movesTo_le _ _) (by omega)
  refine l_move rfl rfl rfl ?_
  have hw12 := St.frontL (l := [_, _, _]) hw11
  simp only [List.cons_append, List.nil_append] at hw12
  try clear hw11
  have hw13 := St.frontL (l := [_, _, _]) hw12
  simp only [List.cons_append, List.nil_append] at hw13
  try clear hw12
  have hw14 := St.frontL (l := [_, _, _]) hw13
  simp only [List.cons_append, List.nil_append] at hw14
  try clear hw13
  have hw15 := St.frontL (l := [_, _, _]) hw14
  simp only [List.cons_append, List.nil_append] at hw15
  try clear hw14
  refine l_call rfl rfl Try.func17 rfl rfl (.cons rfl .nil) (MovesG gb Y hIv.wf w11 (St.rows (τ := gW gb Y) hw15)) ?_
  rintro mv w16 ⟨_, rfl, hX2⟩
  have hw16 := hX2 _ _ _ _ hw15
  simp only [gW, List.cons_append, List.nil_append] at hw16
  try clear hX hw15
  refine l_assign rfl rfl rfl (l_nil (e_then ?_))
  refine c_keep [0, 1, 5, 7, 8, 9] (.cons rfl (.cons rfl (.cons rfl (.cons rfl (.cons rfl (.cons rfl .nil)))))) ?_
  refine c_seq (c_seq (c_region (l_move rfl rfl rfl ?_)))
  refine k_len rfl rfl Try.underlying38 rfl (Own.ik (movesR_rows _) (hw16.ok mem4)) ?_
  refine l_turn (s := 50) (v' := .int .i64 ((movesG Y.abs).length : Int)) rfl (by rw [movesR_len]) ?_
  refine l_eql rfl rfl rfl rfl ?_
  refine l_nil (e_then ?_)
  refine c_keep [0, 1, 5, 7, 8, 9, 51] (.cons rfl (.cons rfl (.cons rfl (.cons rfl (.cons rfl (.cons rfl (.cons rfl .nil))))))) ?_
  first | refine c_cond rfl (fun hc2 => ?_) (fun hc2 => ?_) | refine c_condb rfl (fun hc2 => ?_) (fun hc2 => ?_)
  ·skip
   refine c_seq (c_region (l_move rfl rfl rfl ?_))
   have hw17 := St.frontL (l := [_, _, _]) hw16
   simp only [List.cons_append, List.nil_append] at hw17
   try clear hw16
   have hw18 := St.frontL (l := [_, _, _]) hw17
   simp only [List.cons_append, List.nil_append] at hw18
   try clear hw17
   have hw19 := St.frontL (l := [_, _, _]) hw18
   simp only [List.cons_append, List.nil_append] at hw19
   try clear hw18
   have hw20 := St.frontL (l := [_, _, _]) hw19
   simp only [List.cons_append, List.nil_append] at hw20
   try clear hw19
   refine l_call rfl rfl Try.func21 rfl rfl (.cons rfl .nil) (OverG gb Y hIv.wf w16 (GF.of (σ := _) (b := gb) (X := Y) hw20)) ?_
   rintro _ w21 ⟨rfl, hG⟩
   have hw21 := hG _ _ _ _ hw20
   try clear hG hw20
   simp only [List.cons_append, List.nil_append] at hw21
   refine l_assign rfl rfl rfl (l_nil (e_then ?_))
   refine c_keep [4] (.cons rfl .nil) ?_
   refine c_ret ?_
   refine e_then_ret ?_
   refine e_blk_ret ?_
   refine e_then_ret ?_
   refine e_then_ret ?_
   refine e_blk_ret ?_
   refine e_then_ret ?_
   refine e_done1 Try.results5 rfl ?_
   refine ⟨_, rfl, ?_⟩
   have hw22 := St.del (.tail (.tail (.tail (.tail (.tail (.tail (.tail .head))))))) hw21
   try clear hw21
   have hw23 := St.del (.tail (.tail (.tail (.tail (.tail (.tail .head)))))) hw22
   try clear hw22
   have hw24 := St.del (.tail (.tail (.tail (.tail (.tail .head))))) hw23
   try clear hw23
   have hw25 := St.del (.tail (.tail (.tail (.tail .head)))) hw24
   try clear hw24
   have hw26 := St.del (.tail (.tail (.tail .head))) hw25
   try clear hw25
   have hw27 := St.del (.tail (.tail .head)) hw26
   try clear hw26
   have hw28 := St.del (.tail .head) hw27
   try clear hw27
   have hw29 := St.del .head hw28
   try clear hw28
   exact ⟨congrArg Value.bool (hIv.over.2 (List.eq_nil_of_length_eq_zero (by omega))), hw29.grows⟩
  ·skip
   refine c_skip (e_then ?_)
   refine c_keep [0, 1, 5, 7, 8, 9] (.cons rfl (.cons rfl (.cons rfl (.cons rfl (.cons rfl (.cons rfl .nil)))))) ?_
   refine c_seq (c_region ?_)
   have hne : movesG Y.abs ≠ [] := fun h => hc2 (by rw [h]; rfl)
   refine l_move rfl rfl rfl (l_move rfl rfl rfl ?_)
   refine v_getr (j := i) rfl rfl rfl rfl Try.underlying23 tz3 Try.underlying3 rfl rfl (by first | exact hw16.ibl mem0 | exact hw16.ik (by assumption) mem1 | exact hw16.io mem2 | exact hw16.ik (by assumption) mem4 | exact hw16.io mem5 | exact hw16.ibl mem7 | exact hw16.iarg hv | exact hw16.iarg hv1 | assumption) (by assumption) rfl (by omega) (by first | omega | (simp; done) | (simp; omega)) (fun hb12_2 => ?_)
   refine l_move rfl rfl rfl ?_
   refine k_len rfl rfl Try.underlying38 rfl (Own.ik (movesR_rows _) (hw16.ok mem4)) ?_
   refine l_turn (s := 59) (v' := .int .i64 ((movesG Y.abs).length : Int)) rfl (by rw [movesR_len]) ?_
   refine l_callp rfl rfl Try.func22 rfl rfl (.cons rfl (.cons rfl .nil)) (whichR (l1.getD i 0) ((movesG Y.abs).length : Int) (by omega) (by omega) _) ?_
   obtain ⟨kk, i0, hwk, hki, hkl, hd0, hd2, hi0, hm0⟩ := doRes_at (p := l1.getD i 0) hne
   refine l_turn (s := 60) (v' := .int .i64 (kk : Int)) rfl (by rw [hwk]) ?_
   refine l_assign rfl rfl rfl (l_nil (e_then ?_))
   refine c_keep [0, 1, 5, 7, 8, 9, 10] (.cons rfl (.cons rfl (.cons rfl (.cons rfl (.cons rfl (.cons rfl (.cons rfl .nil))))))) ?_
   refine c_seq (c_region ?_)
   have hi1 : i0 < (asksF ls).length := by omega
   obtain ⟨x, hxi⟩ : ∃ x, (xs.map Prod.fst)[i0]? = some x := ⟨_, List.getElem?_eq_getElem (by have := xs_len hxs; omega)⟩
   obtain ⟨l, hli⟩ : ∃ l, (asksF ls)[i0]? = some l := ⟨_, List.getElem?_eq_getElem hi1⟩
   obtain ⟨Ax, cx, hxe, _, _⟩ := xs_iv (hw16.ok mem6) hxs i0 x l hxi hli
   rw [List.length_map] at hxe
   have hlok := (asksF_ok ls).2 l (List.mem_of_getElem? hli)
   have hl64 := hlok.1
   obtain ⟨hd, hgh, hask, hHF, hmay, hln⟩ := hIv.hand hli
   obtain ⟨tk, htk⟩ : ∃ tk : Int, (if hd.line = 2 ∨ hd.line = 3 then wantH hd else -1) = tk := ⟨_, rfl⟩
   rw [htk] at hHF
   have htk2 : hd.line = 2 → tk = wantH hd := fun h => by rw [← htk, if_pos (.inl h)]
   have hll := laid_le hIv.wf tk
   have hmr : (movesR (movesG Y.abs))[kk]? = some [.int .i64 (i0 : Int), .int .i64 0] := by unfold movesR; rw [List.getElem?_map, hki]; rfl
   refine l_move rfl rfl rfl (l_move rfl rfl rfl (l_move rfl rfl rfl ?_))
   refine k_addr (j := kk) rfl rfl Try.underlying38 tz47 (by decide) rfl rfl (Own.ik (movesR_rows _) (hw16.ok mem4)) rfl (by rw [movesR_len]; omega) (fun A13 c13 hA13 => ?_)
   refine k_field fo47_0 rfl rfl rfl ?_
   refine k_load1 (j := kk) (o := 0) (r := [.int .i64 (i0 : Int), .int .i64 0]) rfl rfl Try.underlying3 rfl rfl hA13 (Own.ik (movesR_rows _) (hw16.ok mem4)) hmr rfl ?_
   have hw30 := St.frontL (l := [_, _, _]) hw16
   simp only [List.cons_append, List.nil_append] at hw30
   try clear hw16
   have hw31 := St.frontL (l := [_, _, _]) hw30
   simp only [List.cons_append, List.nil_append] at hw31
   try clear hw30
   have hw32 := St.frontL (l := [_, _, _]) hw31
   simp only [List.cons_append, List.nil_append] at hw32
   try clear hw31
   have hw33 := St.frontL (l := [_, _, _]) hw32
   simp only [List.cons_append, List.nil_append] at hw33
   try clear hw32
   refine l_call rfl rfl Try.func18 rfl rfl (.cons rfl (.cons rfl .nil)) (HandG gb Y hIv.wf (i0 : Int) w16 (GF.of (σ := _) (b := gb) (X := Y) hw33)) ?_
   rintro _ w34 ⟨rfl, hG⟩
   have hw34 := hG _ _ _ _ hw33
   try clear hG hw33
   simp only [List.cons_append, List.nil_append] at hw34
   refine l_turn (s := 67) (v' := handVal (hd.line, (hd.nx : Int), tk)) rfl (by rw [hHF]) ?_
   refine l_alloc hw34 ta41 rfl rfl (fun b13_7 w35 hw35 => ?_)
   try clear hw34
   refine l_store_blks hw35 .head (.zero (.zero (.zero .nil))) rfl tz41 rfl rfl (by first | (simp [Value.oneCell']; done) | (intro u hu; simp only [List.mem_cons, List.not_mem_nil, or_false] at hu; rcases hu with rfl | rfl | rfl <;> first | rfl | assumption)) (fun w36 hw36 => ?_)
   try clear hw35
   refine l_nil (e_then ?_)
   refine c_keep [0, 1, 5, 7, 8, 9, 10, 11] (.cons rfl (.cons rfl (.cons rfl (.cons rfl (.cons rfl (.cons rfl (.cons rfl (.cons rfl .nil)))))))) ?_
   refine c_seq (c_region (l_assign rfl rfl rfl (l_nil (e_then ?_))))
   refine c_cutk (ι := Int) (fun (la : Int) (w' : World) => St w w.heap.size None' (gW gb Y ++ [As.rk 47 2 mv (movesR (movesG Y.abs)), As.ro 23 vo (xs.map Prod.fst), As.sep (xs.map (fun p : Value × List Int => As.ri 3 .i64 p.1 p.2)), As.blk b5_0 49 (boolC F), As.blk b13_7 41 [.int .i64 hd.line, .int .i64 (hd.nx : Int), .int .i64 tk]]) w' ∧ 0 ≤ la ∧ la ≤ 16 ∧ (hd.line = 2 → la = ((sgF Y.abs tk).laid : Int))) (fun (la : Int) => [(12, .int .i64 la)]) [0, 1, 5, 7, 8, 9, 10, 11] (.cons rfl (.cons rfl (.cons rfl (.cons rfl (.cons rfl (.cons rfl (.cons rfl (.cons rfl .nil)))))))) ?_ ?_
   ·skip
    refine c_seq (c_region (l_field fo41_0 rfl rfl rfl ?_))
    refine l_load_blk hw36 mem0 rfl rfl Try.underlying3 rfl rfl rfl ?_
    refine l_eql rfl rfl rfl rfl ?_
    refine l_nil (e_then ?_)
    refine c_keep [0, 1, 5, 7, 8, 9, 10, 11, 12, 70] (.cons rfl (.cons rfl (.cons rfl (.cons rfl (.cons rfl (.cons rfl (.cons rfl (.cons rfl (.cons rfl (.cons rfl .nil)))))))))) ?_
    first | refine c_cond rfl (fun hc3 => ?_) (fun hc3 => ?_) | refine c_condb rfl (fun hc3 => ?_) (fun hc3 => ?_)
    ·skip
     refine c_region (l_move rfl rfl rfl (l_field fo41_2 rfl rfl rfl ?_))
     refine l_load_blk hw36 mem0 rfl rfl Try.underlying3 rfl rfl rfl ?_
     have hw37 := St.frontL (l := [_, _, _, _]) hw36
     simp only [List.cons_append, List.nil_append] at hw37
     try clear hw36
     have hw38 := St.frontL (l := [_, _, _, _]) hw37
     simp only [List.cons_append, List.nil_append] at hw38
     try clear hw37
     have hw39 := St.frontL (l := [_, _, _, _]) hw38
     simp only [List.cons_append, List.nil_append] at hw39
     try clear hw38
     have hw40 := St.frontL (l := [_, _, _, _]) hw39
     simp only [List.cons_append, List.nil_append] at hw40
     try clear hw39
     refine l_callp rfl rfl Try.func23 rfl rfl (.cons rfl (.cons rfl .nil)) (LaidG gb Y hIv.wf tk w36 (GF.of (σ := _) (b := gb) (X := Y) hw40)) ?_
     refine l_assign rfl rfl rfl (l_nil ?_)
     have hw41 := St.frontL (l := [_, _, _, _]) hw40
     simp only [List.cons_append, List.nil_append] at hw41
     try clear hw40
     have hw42 := St.frontL (l := [_, _, _, _, _, _, _, _]) hw41
     simp only [List.cons_append, List.nil_append] at hw42
     try clear hw41
     have hw43 := St.frontL (l := [_, _, _, _, _, _, _, _]) hw42
     simp only [List.cons_append, List.nil_append] at hw43
     try clear hw42
     have hw44 := St.frontL (l := [_, _, _, _, _, _, _, _]) hw43
     simp only [List.cons_append, List.nil_append] at hw44
     try clear hw43
     have hw45 := St.frontL (l := [_, _, _, _, _, _, _, _]) hw44
     simp only [List.cons_append, List.nil_append] at hw45
     try clear hw44
     have hw46 := St.frontL (l := [_, _, _, _, _, _, _, _]) hw45
     simp only [List.cons_append, List.nil_append] at hw46
     try clear hw45
     have hw47 := St.frontL (l := [_, _, _, _, _, _, _, _]) hw46
     simp only [List.cons_append, List.nil_append] at hw47
     try clear hw46
     have hw48 := St.frontL (l := [_, _, _, _, _, _, _, _]) hw47
     simp only [List.cons_append, List.nil_append] at hw48
     try clear hw47
     have hw49 := St.frontL (l := [_, _, _, _, _, _, _, _]) hw48
     simp only [List.cons_append, List.nil_append] at hw49
     try clear hw48
     refine e_meetk (((sgF Y.abs tk).laid : Int)) ?_ (.cons rfl (.cons rfl (.cons rfl (.cons rfl (.cons rfl (.cons rfl (.cons rfl (.cons rfl .nil)))))))) ?_
     ·exact ⟨hw49, by omega, by omega, fun _ => rfl⟩
     ·exact (.cons rfl (by first | rfl | (refine congrArg (Value.int _) ?_; omega)) .nil)
    ·skip
     refine c_skip ?_
     have hw50 := St.frontL (l := [_, _, _, _, _, _, _, _]) hw36
     simp only [List.cons_append, List.nil_append] at hw50
     try clear hw36
     have hw51 := St.frontL (l := [_, _, _, _, _, _, _, _]) hw50
     simp only [List.cons_append, List.nil_append] at hw51
     try clear hw50
     have hw52 := St.frontL (l := [_, _, _, _, _, _, _, _]) hw51
     simp only [List.cons_append, List.nil_append] at hw52
     try clear hw51
     have hw53 := St.frontL (l := [_, _, _, _, _, _, _, _]) hw52
     simp only [List.cons_append, List.nil_append] at hw53
     try clear hw52
     have hw54 := St.frontL (l := [_, _, _, _, _, _, _, _]) hw53
     simp only [List.cons_append, List.nil_append] at hw54
     try clear hw53
     have hw55 := St.frontL (l := [_, _, _, _, _, _, _, _]) hw54
     simp only [List.cons_append, List.nil_append] at hw55
     try clear hw54
     have hw56 := St.frontL (l := [_, _, _, _, _, _, _, _]) hw55
     simp only [List.cons_append, List.nil_append] at hw56
     try clear hw55
     have hw57 := St.frontL (l := [_, _, _, _, _, _, _, _]) hw56
     simp only [List.cons_append, List.nil_append] at hw57
     try clear hw56
     refine e_meetk (0) ?_ (.cons rfl (.cons rfl (.cons rfl (.cons rfl (.cons rfl (.cons rfl (.cons rfl (.cons rfl .nil)))))))) ?_
     ·exact ⟨hw57, by omega, by omega, fun h => absurd h (by assumption)⟩
     ·exact (.cons rfl (by first | rfl | (refine congrArg (Value.int _) ?_; omega)) .nil)
   rintro la w58 ⟨hw58, hla0, hla6, hla⟩
   show RunC P _ _ _ (_ :: _) _
   refine c_seq (c_seq (c_region (l_move rfl rfl rfl (l_move rfl rfl rfl ?_))))
   have hw59 := St.frontL (l := [_, _, _]) hw58
   simp only [List.cons_append, List.nil_append] at hw59
   try clear hw58
   have hw60 := St.frontL (l := [_, _, _]) hw59
   simp only [List.cons_append, List.nil_append] at hw60
   try clear hw59
   have hw61 := St.frontL (l := [_, _, _]) hw60
   simp only [List.cons_append, List.nil_append] at hw61
   try clear hw60
   have hw62 := St.frontL (l := [_, _, _]) hw61
   simp only [List.cons_append, List.nil_append] at hw62
   try clear hw61
   refine l_call rfl rfl Try.func24 rfl rfl (.cons rfl (.cons rfl .nil)) (DoG gb Y hIv.wf (kk : Int) (by omega) w58 (St.rows (τ := gW gb Y) hw62)) ?_
   rintro _ w63 ⟨Y2, rfl, hY2, hX2⟩
   have hw63 := hX2 _ _ _ _ hw62
   simp only [gW, List.cons_append, List.nil_append] at hw63
   try clear hX hw62
   rw [hd2] at hY2
   have hIv2 : Iv (asksF ls) Y2.abs := by rw [hY2]; exact hIv.step hm0 hi0
   have hDo2 : DoneF Y2.abs F := by rw [hY2]; exact hDo.step hIv.wf hm0
   have hla2 : hd.line = 2 → ((sgF Y2.abs tk).laid : Int) = la + 1 := fun h2 => by rw [hla h2, hY2, htk2 h2, lay_step hIv.wf hgh h2]; rfl
   refine l_callp rfl rfl Try.func10 rfl rfl (.cons rfl .nil) (numL28 _ _) ?_
   refine l_neq rfl rfl rfl rfl ?_
   refine l_turn (s := 79) (v' := .bool false) rfl (by rw [hd0]; rfl) ?_
   refine l_move rfl rfl rfl (l_field fo41_0 rfl rfl rfl ?_)
   refine l_load_blk hw63 mem8 rfl rfl Try.underlying3 rfl rfl rfl ?_
   refine l_eql rfl rfl rfl rfl ?_
   refine l_move rfl rfl rfl ?_
   apply l_and 7 [0, 1, 5, 7, 8, 9, 10, 80] rfl rfl (.cons rfl (.cons rfl (.cons rfl (.cons rfl (.cons rfl (.cons rfl (.cons rfl (.cons rfl (.cons rfl .nil))))))))) rfl rfl (fun _ => rfl) rfl rfl rfl
   ·intro hg17_10
    refine l_move rfl rfl rfl (l_field fo41_2 rfl rfl rfl ?_)
    refine l_load_blk hw63 mem8 rfl rfl Try.underlying3 rfl rfl rfl ?_
    have hw64 := St.frontL (l := [_, _, _]) hw63
    simp only [List.cons_append, List.nil_append] at hw64
    try clear hw63
    have hw65 := St.frontL (l := [_, _, _]) hw64
    simp only [List.cons_append, List.nil_append] at hw65
    try clear hw64
    have hw66 := St.frontL (l := [_, _, _]) hw65
    simp only [List.cons_append, List.nil_append] at hw66
    try clear hw65
    have hw67 := St.frontL (l := [_, _, _]) hw66
    simp only [List.cons_append, List.nil_append] at hw67
    try clear hw66
    refine l_callp rfl rfl Try.func23 rfl rfl (.cons rfl (.cons rfl .nil)) (LaidG gb Y2 hIv2.wf tk w63 (GF.of (σ := _) (b := gb) (X := Y2) hw67)) ?_
    refine l_move rfl rfl rfl ?_
    refine l_add rfl rfl rfl rfl (w_i64 (by omega)) ?_
    refine l_neq rfl rfl rfl rfl ?_
    refine l_nil ?_
    exact e_stays rfl (.cons rfl (congrArg Value.bool (decide_eq_true hg17_10).symm) (.cons rfl rfl (.cons rfl rfl (.cons rfl rfl (.cons rfl rfl (.cons rfl rfl (.cons rfl rfl (.cons rfl rfl (.cons rfl rfl .nil)))))))))
    all_goals infer_instance
   refine l_turn (s := 92) (v' := .bool false) rfl (by exact congrArg Value.bool (decide_eq_false (fun h => h.2 (hla2 h.1)))) ?_
   refine l_pick_f rfl rfl rfl rfl ?_
   refine l_nil (e_then ?_)
   refine c_keep [0, 1, 5, 7, 8, 9, 10, 93] (.cons rfl (.cons rfl (.cons rfl (.cons rfl (.cons rfl (.cons rfl (.cons rfl (.cons rfl .nil)))))))) ?_
   refine c_cond_f rfl rfl ?_
   refine c_skip (e_then ?_)
   refine c_keep [0, 1, 5, 7, 8, 9, 10] (.cons rfl (.cons rfl (.cons rfl (.cons rfl (.cons rfl (.cons rfl (.cons rfl .nil))))))) ?_
   refine c_seq (c_seq (c_region ?_))
   have hw68 := St.del (.tail (.tail (.tail (.tail (.tail (.tail (.tail (.tail .head)))))))) hw63
   try clear hw63
   have hw69 := St.frontL (l := [_, _, _, _, _, _, _]) hw68
   simp only [List.cons_append, List.nil_append] at hw69
   try clear hw68
   have hw70 := St.frontL (l := [_, _, _, _, _, _, _]) hw69
   simp only [List.cons_append, List.nil_append] at hw70
   try clear hw69
   have hw71 := St.frontL (l := [_, _, _, _, _, _, _]) hw70
   simp only [List.cons_append, List.nil_append] at hw71
   try clear hw70
   have hw72 := St.frontL (l := [_, _, _, _, _, _, _]) hw71
   simp only [List.cons_append, List.nil_append] at hw72
   try clear hw71
   have hw73 := St.frontL (l := [_, _, _, _, _, _, _]) hw72
   simp only [List.cons_append, List.nil_append] at hw73
   try clear hw72
   have hw74 := St.frontL (l := [_, _, _, _, _, _, _]) hw73
   simp only [List.cons_append, List.nil_append] at hw74
   try clear hw73
   have hw75 := St.frontL (l := [_, _, _, _, _, _, _]) hw74
   simp only [List.cons_append, List.nil_append] at hw75
   try clear hw74
   have hw76 := St.frontL (l := [_, _, _, _, _, _, _]) hw75
   simp only [List.cons_append, List.nil_append] at hw76
   try clear hw75
   refine l_assign rfl rfl rfl (l_nil (e_then (c_block ?_)))
   refine c_loopk (ι := Nat × List Bool) (fun (z0 : Nat × List Bool) => match z0 with | ⟨s, F2⟩ => 41 - s) (fun (z0 : Nat × List Bool) (w' : World) => match z0 with | ⟨s, F2⟩ => St w w.heap.size None' (gW gb Y2 ++ [As.rk 47 2 mv (movesR (movesG Y.abs)), As.ro 23 vo (xs.map Prod.fst), As.sep (xs.map (fun p : Value × List Int => As.ri 3 .i64 p.1 p.2)), As.blk b5_0 49 (boolC F2)]) w' ∧ s ≤ 41 ∧ DoneF Y2.abs F2) (fun (z0 : Nat × List Bool) => match z0 with | ⟨s, F2⟩ => [(13, .int .i64 (s : Int))]) [0, 1, 5, 7, 8, 9, 10] (0, F) ?_ (.cons rfl (.cons rfl (.cons rfl (.cons rfl (.cons rfl (.cons rfl (.cons rfl .nil))))))) ?_ ?_
   ·exact ⟨hw76, by omega, hDo2⟩
   ·exact (.cons rfl (by first | rfl | (refine congrArg (Value.int _) ?_; omega)) .nil)
   rintro ⟨s, F2⟩ w77 ⟨hw77, hs, hD2⟩
   show RunC P _ _ _ (_ :: _) _
   simp only [gW, List.cons_append, List.nil_append] at hw77
   refine c_seq (c_seq (c_region (l_move rfl rfl rfl ?_)))
   refine l_lss rfl rfl rfl rfl ?_
   refine l_nil (e_then ?_)
   refine c_keep [0, 1, 5, 7, 8, 9, 10, 13, 95] (.cons rfl (.cons rfl (.cons rfl (.cons rfl (.cons rfl (.cons rfl (.cons rfl (.cons rfl (.cons rfl .nil))))))))) ?_
   first | refine c_cond rfl (fun hc5 => ?_) (fun hc5 => ?_) | refine c_condb rfl (fun hc5 => ?_) (fun hc5 => ?_)
   ·skip
    refine c_skip (e_then ?_)
    refine c_keep [0, 1, 5, 7, 8, 9, 10, 13] (.cons rfl (.cons rfl (.cons rfl (.cons rfl (.cons rfl (.cons rfl (.cons rfl (.cons rfl .nil)))))))) ?_
    refine c_seq (c_block (c_seq (c_region ?_)))
    have hw78 := St.frontL (l := [_, _, _]) hw77
    simp only [List.cons_append, List.nil_append] at hw78
    try clear hw77
    have hw79 := St.frontL (l := [_, _, _]) hw78
    simp only [List.cons_append, List.nil_append] at hw79
    try clear hw78
    have hw80 := St.frontL (l := [_, _, _]) hw79
    simp only [List.cons_append, List.nil_append] at hw80
    try clear hw79
    have hw81 := St.frontL (l := [_, _, _]) hw80
    simp only [List.cons_append, List.nil_append] at hw81
    try clear hw80
    refine l_move rfl rfl rfl ?_
    refine l_callp rfl rfl Try.func25 rfl rfl (.cons rfl .nil) (firstR (s : Int) (by omega) _) ?_
    refine l_move rfl rfl rfl (l_extract rfl rfl rfl rfl (l_extract rfl rfl rfl rfl (l_extract rfl rfl rfl rfl (l_assign rfl rfl rfl (l_assign rfl rfl rfl ?_)))))
    refine l_assign rfl rfl rfl (l_nil (e_then ?_))
    refine c_keep [0, 1, 5, 7, 8, 9, 10, 13, 15] (.cons rfl (.cons rfl (.cons rfl (.cons rfl (.cons rfl (.cons rfl (.cons rfl (.cons rfl (.cons rfl .nil))))))))) ?_
    refine c_seq (c_region ?_)
    obtain ⟨hfs, hb0, hb1, hl1, hdn⟩ := sg_bd hIv2.wf (s := s) (by omega)
    refine l_move rfl rfl rfl (l_move rfl rfl rfl ?_)
    refine l_callp rfl rfl Try.func20 rfl rfl (.cons rfl (.cons rfl .nil)) (CompleteG gb Y2 hIv2.wf.sgX (s : Int) w77 (GF.of (σ := _) (b := gb) (X := Y2) hw81)) ?_
    refine l_assign rfl rfl rfl (l_nil (e_then ?_))
    refine c_keep [0, 1, 5, 7, 8, 9, 10, 13, 15, 17] (.cons rfl (.cons rfl (.cons rfl (.cons rfl (.cons rfl (.cons rfl (.cons rfl (.cons rfl (.cons rfl (.cons rfl .nil)))))))))) ?_
    refine c_seq (c_seq (c_region (l_move rfl rfl rfl (l_move rfl rfl rfl ?_))))
    refine l_callp rfl rfl Try.func16 rfl rfl (.cons rfl (.cons rfl .nil)) (BuiltG gb Y2 hIv2.wf.sgX (s : Int) w77 (GF.of (σ := _) (b := gb) (X := Y2) hw81)) ?_
    refine l_lss rfl rfl rfl rfl ?_
    refine l_turn (s := 110) (v' := .bool false) rfl (by exact congrArg Value.bool (decide_eq_false (by omega))) ?_
    refine l_move rfl rfl rfl (l_move rfl rfl rfl (l_move rfl rfl rfl ?_))
    refine l_callp rfl rfl Try.func16 rfl rfl (.cons rfl (.cons rfl .nil)) (BuiltG gb Y2 hIv2.wf.sgX (s : Int) w77 (GF.of (σ := _) (b := gb) (X := Y2) hw81)) ?_
    refine l_gtr rfl rfl rfl rfl ?_
    refine l_turn (s := 115) (v' := .bool false) rfl (by exact congrArg Value.bool (decide_eq_false (by omega))) ?_
    refine l_pick_f rfl rfl rfl rfl ?_
    refine l_move rfl rfl rfl (l_move rfl rfl rfl (l_move rfl rfl rfl ?_))
    refine l_callp rfl rfl Try.func23 rfl rfl (.cons rfl (.cons rfl .nil)) (LaidG gb Y2 hIv2.wf (s : Int) w77 (GF.of (σ := _) (b := gb) (X := Y2) hw81)) ?_
    refine l_move rfl rfl rfl ?_
    refine l_gtr rfl rfl rfl rfl ?_
    refine l_turn (s := 122) (v' := .bool false) rfl (by exact congrArg Value.bool (decide_eq_false (by omega))) ?_
    refine l_pick_f rfl rfl rfl rfl ?_
    refine l_move rfl rfl rfl (l_move rfl rfl rfl ?_)
    refine l_turn (s := 125) (v' := .bool (decide ((sgF Y2.abs (s : Int)).done = true))) rfl (by simp) ?_
    refine l_move rfl rfl rfl ?_
    apply l_and (q := False) 11 [0, 1, 5, 7, 8, 9, 10, 13, 17, 124] rfl rfl (.cons rfl (.cons rfl (.cons rfl (.cons rfl (.cons rfl (.cons rfl (.cons rfl (.cons rfl (.cons rfl (.cons rfl (.cons rfl .nil))))))))))) rfl rfl (fun _ => rfl) rfl rfl rfl
    ·intro hg24_20
     refine l_move rfl rfl rfl (l_move rfl rfl rfl ?_)
     refine l_callp rfl rfl Try.func16 rfl rfl (.cons rfl (.cons rfl .nil)) (BuiltG gb Y2 hIv2.wf.sgX (s : Int) w77 (GF.of (σ := _) (b := gb) (X := Y2) hw81)) ?_
     refine l_neq rfl rfl rfl rfl ?_
     refine l_turn (s := 130) (v' := .bool false) rfl (by exact congrArg Value.bool (decide_eq_false (fun h => h (hdn hg24_20).1))) ?_
     refine l_move rfl rfl rfl (l_move rfl rfl rfl (l_move rfl rfl rfl ?_))
     refine l_callp rfl rfl Try.func23 rfl rfl (.cons rfl (.cons rfl .nil)) (LaidG gb Y2 hIv2.wf (s : Int) w77 (GF.of (σ := _) (b := gb) (X := Y2) hw81)) ?_
     refine l_move rfl rfl rfl ?_
     refine l_neq rfl rfl rfl rfl ?_
     refine l_turn (s := 136) (v' := .bool false) rfl (by exact congrArg Value.bool (decide_eq_false (fun h => h (by rw [(hdn hg24_20).2, hfs])))) ?_
     refine l_pick_f rfl rfl rfl rfl ?_
     refine l_nil ?_
     exact e_stays rfl (.cons rfl (congrArg Value.bool (decide_eq_true hg24_20).symm) (.cons rfl rfl (.cons rfl rfl (.cons rfl rfl (.cons rfl rfl (.cons rfl rfl (.cons rfl rfl (.cons rfl rfl (.cons rfl rfl (.cons rfl rfl (.cons rfl rfl .nil)))))))))))
     all_goals infer_instance
    refine l_turn (s := 138) (v' := .bool false) rfl (by simp) ?_
    refine l_pick_f rfl rfl rfl rfl ?_
    refine l_move rfl rfl rfl (l_move rfl rfl rfl ?_)
    refine l_indexAo (j := s) (o := 0) (n := 1) rfl rfl Try.underlying49 tz4 rfl rfl rfl (by omega) ?_
    rw [Nat.mul_one, Nat.zero_add]
    refine l_load_blk hw81 mem7 rfl rfl Try.underlying4 rfl rfl (boolC_at (by have := hD2.1; omega)) ?_
    refine l_turn (s := 143) (v' := .bool (decide (F2.getD s false = true))) rfl (by simp) ?_
    refine l_move rfl rfl rfl ?_
    apply l_and (q := False) 2 [0, 1, 5, 7, 8, 9, 10, 13, 17, 140] rfl rfl (.cons rfl (.cons rfl (.cons rfl (.cons rfl (.cons rfl (.cons rfl (.cons rfl (.cons rfl (.cons rfl (.cons rfl (.cons rfl .nil))))))))))) rfl rfl (fun _ => rfl) rfl rfl rfl
    ·intro hg24_38
     refine l_move rfl rfl rfl ?_
     first | refine l_notd rfl rfl rfl ?_ | refine l_not rfl rfl rfl ?_
     refine l_turn (s := 146) (v' := .bool false) rfl (by rw [hD2.2 s (by omega) hg24_38]; rfl) ?_
     refine l_nil ?_
     exact e_stays rfl (.cons rfl (congrArg Value.bool (decide_eq_true hg24_38).symm) (.cons rfl rfl (.cons rfl rfl (.cons rfl rfl (.cons rfl rfl (.cons rfl rfl (.cons rfl rfl (.cons rfl rfl (.cons rfl rfl (.cons rfl rfl (.cons rfl rfl .nil)))))))))))
     all_goals infer_instance
    refine l_turn (s := 147) (v' := .bool false) rfl (by simp) ?_
    refine l_pick_f rfl rfl rfl rfl ?_
    refine l_nil (e_then ?_)
    refine c_keep [0, 1, 5, 7, 8, 9, 10, 13, 17, 148] (.cons rfl (.cons rfl (.cons rfl (.cons rfl (.cons rfl (.cons rfl (.cons rfl (.cons rfl (.cons rfl (.cons rfl .nil)))))))))) ?_
    refine c_cond_f rfl rfl ?_
    refine c_skip (e_then ?_)
    refine c_keep [0, 1, 5, 7, 8, 9, 10, 13, 17] (.cons rfl (.cons rfl (.cons rfl (.cons rfl (.cons rfl (.cons rfl (.cons rfl (.cons rfl (.cons rfl .nil))))))))) ?_
    refine c_region (l_move rfl rfl rfl (l_move rfl rfl rfl ?_))
    refine l_indexAo (j := s) (o := 0) (n := 1) rfl rfl Try.underlying49 tz4 rfl rfl rfl (by omega) ?_
    rw [Nat.mul_one, Nat.zero_add]
    refine l_store_blk hw81 (by repeat (first | exact .head | apply Upd.tail)) (setAt_of (by rw [boolC_len]; have := hD2.1; omega) _) rfl tz4 rfl rfl rfl (fun w82 hw82 => ?_)
    refine l_nil ?_
    refine e_blk ?_
    refine e_then ?_
    refine c_keep [0, 1, 5, 7, 8, 9, 10, 13] (.cons rfl (.cons rfl (.cons rfl (.cons rfl (.cons rfl (.cons rfl (.cons rfl (.cons rfl .nil)))))))) ?_
    refine c_region ?_
    have hw83 := St.frontL (l := [_, _, _, _, _, _, _]) hw82
    simp only [List.cons_append, List.nil_append] at hw83
    try clear hw82
    have hw84 := St.frontL (l := [_, _, _, _, _, _, _]) hw83
    simp only [List.cons_append, List.nil_append] at hw84
    try clear hw83
    have hw85 := St.frontL (l := [_, _, _, _, _, _, _]) hw84
    simp only [List.cons_append, List.nil_append] at hw85
    try clear hw84
    have hw86 := St.frontL (l := [_, _, _, _, _, _, _]) hw85
    simp only [List.cons_append, List.nil_append] at hw86
    try clear hw85
    have hw87 := St.frontL (l := [_, _, _, _, _, _, _]) hw86
    simp only [List.cons_append, List.nil_append] at hw87
    try clear hw86
    have hw88 := St.frontL (l := [_, _, _, _, _, _, _]) hw87
    simp only [List.cons_append, List.nil_append] at hw88
    try clear hw87
    have hw89 := St.frontL (l := [_, _, _, _, _, _, _]) hw88
    simp only [List.cons_append, List.nil_append] at hw89
    try clear hw88
    have hw90 := St.frontL (l := [_, _, _, _, _, _, _]) hw89
    simp only [List.cons_append, List.nil_append] at hw90
    try clear hw89
    refine l_move rfl rfl rfl ?_
    refine l_add rfl rfl rfl rfl (w_i64 (by omega)) ?_
    refine l_assign rfl rfl rfl (l_nil ?_)
    refine e_againk (i := (s, F2)) (s + 1, F2.set s (sgF Y2.abs (s : Int)).done) ?_ ?_ (.cons rfl (.cons rfl (.cons rfl (.cons rfl (.cons rfl (.cons rfl (.cons rfl .nil))))))) ?_
    ·first | omega | (simp; omega)
    ·exact ⟨hw90.cast (by rw [boolC_set]; rfl), by omega, hD2.set⟩
    ·exact (.cons rfl (by first | rfl | (refine congrArg (Value.int _) ?_; omega)) .nil)
   ·skip
    refine c_exit ?_
    refine e_then_exit ?_
    refine e_then_exit ?_
    refine e_blk_exit ?_
    refine e_then ?_
    refine c_keep [0, 1, 5, 7, 8, 9, 10] (.cons rfl (.cons rfl (.cons rfl (.cons rfl (.cons rfl (.cons rfl (.cons rfl .nil))))))) ?_
    refine c_seq (c_region (l_move rfl rfl rfl (l_move rfl rfl rfl ?_)))
    refine k_addr (j := kk) rfl rfl Try.underlying38 tz47 (by decide) rfl rfl (Own.ik (movesR_rows _) (hw77.ok mem4)) rfl (by rw [movesR_len]; omega) (fun A27 c27 hA27 => ?_)
    refine k_field fo47_0 rfl rfl rfl ?_
    refine k_load1 (j := kk) (o := 0) (r := [.int .i64 (i0 : Int), .int .i64 0]) rfl rfl Try.underlying3 rfl rfl hA27 (Own.ik (movesR_rows _) (hw77.ok mem4)) hmr rfl ?_
    refine l_assign rfl rfl rfl (l_nil (e_then ?_))
    refine c_keep [0, 1, 5, 7, 8, 18] (.cons rfl (.cons rfl (.cons rfl (.cons rfl (.cons rfl (.cons rfl .nil)))))) ?_
    refine c_seq (c_region (l_move rfl rfl rfl ?_))
    refine l_lss rfl rfl rfl rfl ?_
    refine l_turn (s := 158) (v' := .bool false) rfl (by exact congrArg Value.bool (decide_eq_false (by omega))) ?_
    refine l_move rfl rfl rfl (l_move rfl rfl rfl (l_move rfl rfl rfl ?_))
    refine v_len rfl rfl Try.underlying22 rfl (by first | exact hw77.ibl mem0 | exact hw77.ik (by assumption) mem1 | exact hw77.io mem2 | exact hw77.ik (by assumption) mem4 | exact hw77.io mem5 | exact hw77.ibl mem7 | exact hw77.iarg hv | exact hw77.iarg hv1 | assumption) ?_
    refine l_geq rfl rfl rfl rfl ?_
    refine l_turn (s := 163) (v' := .bool false) rfl (by exact congrArg Value.bool (decide_eq_false (by omega))) ?_
    refine l_pick_f rfl rfl rfl rfl ?_
    refine l_move rfl rfl rfl (l_move rfl rfl rfl (l_move rfl rfl rfl (l_move rfl rfl rfl ?_)))
    refine v_get rfl rfl rfl rfl Try.underlying22 tz23 Try.underlying23 rfl rfl rfl (by first | exact hw77.ibl mem0 | exact hw77.ik (by assumption) mem1 | exact hw77.io mem2 | exact hw77.ik (by assumption) mem4 | exact hw77.io mem5 | exact hw77.ibl mem7 | exact hw77.iarg hv | exact hw77.iarg hv1 | assumption) (by first | omega | (simp; done) | (simp; omega)) hxi ?_ rfl
    refine l_move rfl rfl rfl ?_
    have hw91 := St.frontL (l := [_, _, _]) hw77
    simp only [List.cons_append, List.nil_append] at hw91
    try clear hw77
    have hw92 := St.frontL (l := [_, _, _]) hw91
    simp only [List.cons_append, List.nil_append] at hw92
    try clear hw91
    have hw93 := St.frontL (l := [_, _, _]) hw92
    simp only [List.cons_append, List.nil_append] at hw93
    try clear hw92
    have hw94 := St.frontL (l := [_, _, _]) hw93
    simp only [List.cons_append, List.nil_append] at hw94
    try clear hw93
    refine l_call rfl rfl Try.func26 rfl rfl (.cons rfl (.cons rfl (.cons rfl .nil))) (latestL gb Y2 (asksF ls) (asksF_ok ls) hIv2 i0 l hli x w77 (GF.of (σ := _) (b := gb) (X := Y2) hw94) (xs_iv (hw94.ok mem6) hxs i0 x l hxi hli)) ?_
    rintro _ w95 ⟨rfl, hG⟩
    have hw95 := hG _ _ _ _ hw94
    try clear hG hw94
    simp only [List.cons_append, List.nil_append] at hw95
    first | refine l_notd rfl rfl rfl ?_ | refine l_not rfl rfl rfl ?_
    refine l_turn (s := 173) (v' := .bool false) rfl (by rfl) ?_
    refine l_pick_f rfl rfl rfl rfl ?_
    refine l_nil (e_then ?_)
    refine c_keep [0, 1, 5, 7, 8, 174] (.cons rfl (.cons rfl (.cons rfl (.cons rfl (.cons rfl (.cons rfl .nil)))))) ?_
    refine c_cond_f rfl rfl ?_
    refine c_skip ?_
    refine e_blk ?_
    refine e_then ?_
    refine c_keep [0, 1, 5, 7, 8] (.cons rfl (.cons rfl (.cons rfl (.cons rfl (.cons rfl .nil))))) ?_
    refine c_region ?_
    have hw96 := St.frontL (l := [_, _, _, _, _, _, _]) hw95
    simp only [List.cons_append, List.nil_append] at hw96
    try clear hw95
    have hw97 := St.frontL (l := [_, _, _, _, _, _, _]) hw96
    simp only [List.cons_append, List.nil_append] at hw97
    try clear hw96
    have hw98 := St.frontL (l := [_, _, _, _, _, _, _]) hw97
    simp only [List.cons_append, List.nil_append] at hw98
    try clear hw97
    have hw99 := St.frontL (l := [_, _, _, _, _, _]) hw98
    simp only [List.cons_append, List.nil_append] at hw99
    try clear hw98
    have hw100 := St.frontL (l := [_, _, _, _, _, _]) hw99
    simp only [List.cons_append, List.nil_append] at hw100
    try clear hw99
    have hw101 := St.frontL (l := [_, _, _, _, _, _]) hw100
    simp only [List.cons_append, List.nil_append] at hw101
    try clear hw100
    have hw102 := St.frontL (l := [_, _, _, _, _, _]) hw101
    simp only [List.cons_append, List.nil_append] at hw102
    try clear hw101
    refine l_move rfl rfl rfl ?_
    refine l_add rfl rfl rfl rfl (w_i64 (by omega)) ?_
    refine l_assign rfl rfl rfl (l_nil ?_)
    have hw103 := St.del (.tail (.tail (.tail (.tail (.tail (.tail (.tail .head))))))) hw102
    try clear hw102
    refine e_againk (i := (i, Y, F)) (i + 1, Y2, F2) ?_ ?_ (.cons rfl (.cons rfl (.cons rfl (.cons rfl .nil)))) ?_
    ·first | omega | (simp; omega)
    ·exact ⟨hw103, by omega, hIv2, hD2⟩
    ·exact (.cons rfl (by first | rfl | (refine congrArg (Value.int _) ?_; omega)) .nil)
 ·skip
  refine c_exit ?_
  refine e_then_exit ?_
  refine e_then_exit ?_
  refine e_blk_exit ?_
  refine e_then ?_
  refine c_keep [0, 5] (.cons rfl (.cons rfl .nil)) ?_
  refine c_seq (c_region (l_move rfl rfl rfl (l_move rfl rfl rfl ?_)))
  have hw104 := St.frontL (l := [_, _, _]) hw11
  simp only [List.cons_append, List.nil_append] at hw104
  try clear hw11
  have hw105 := St.frontL (l := [_, _, _]) hw104
  simp only [List.cons_append, List.nil_append] at hw105
  try clear hw104
  have hw106 := St.frontL (l := [_, _, _]) hw105
  simp only [List.cons_append, List.nil_append] at hw106
  try clear hw105
  have hw107 := St.frontL (l := [_, _, _]) hw106
  simp only [List.cons_append, List.nil_append] at hw107
  try clear hw106
  refine l_call rfl rfl Try.func27 rfl rfl (.cons rfl (.cons rfl .nil)) (honestL gb Y vo (xs.map Prod.fst) (asksF ls) (xs_len hxs) (asksF_ok ls) hIv w11 (GF.of (σ := _) (b := gb) (X := Y) hw107) (hw107.io mem4) (xs_iv (hw107.ok mem5) hxs)) ?_
  rintro _ w108 ⟨rfl, hG⟩
  have hw108 := hG _ _ _ _ hw107
  try clear hG hw107
  simp only [List.cons_append, List.nil_append] at hw108
  refine l_assign rfl rfl rfl (l_nil (e_then ?_))
  refine c_keep [4] (.cons rfl .nil) ?_
  refine c_ret ?_
  refine e_done1 Try.results5 rfl ?_
  refine ⟨_, rfl, ?_⟩
  have hw109 := St.del (.tail (.tail (.tail (.tail (.tail (.tail .head)))))) hw108
  try clear hw108
  have hw110 := St.del (.tail (.tail (.tail (.tail (.tail .head))))) hw109
  try clear hw109
  have hw111 := St.del (.tail (.tail (.tail (.tail .head)))) hw110
  try clear hw110
  have hw112 := St.del (.tail (.tail (.tail .head))) hw111
  try clear hw111
  have hw113 := St.del (.tail (.tail .head)) hw112
  try clear hw112
  have hw114 := St.del (.tail .head) hw113
  try clear hw113
  have hw115 := St.del .head hw114
  try clear hw114
  exact ⟨rfl, hw115.grows⟩
open Go.ChangeShapes Go.WideShapes Go.ChangeAt Go.RowKit
section
variable {H : Type} {enc : TypeId × Value → H} {P : Program} {W : World}
theorem rows_asks : ∀ rs : List (List Value), (∀ x ∈ rs, ∃ v l, x = [v] ∧ IV W v (ints .i64 l) ∧ Rg (-9223372036854775808) 9223372036854775807 l) → ∃ (vs : List Value) (ls : List (List Int)), rs.flatten = vs ∧ vs.length = rs.length ∧ vs.length = ls.length ∧ (∀ l ∈ ls, Rg (-9223372036854775808) 9223372036854775807 l) ∧ ∀ (j : Nat) (x : Value) (l : List Int), vs[j]? = some x → ls[j]? = some l → IV W x (ints .i64 l)
 | [], _ => ⟨[], [], rfl, rfl, rfl, fun _ h => (nomatch h), fun j x l h => by simp at h⟩
 | r :: rs, h => by
  obtain ⟨v, l, rfl, hv, hR⟩ := h r (.head _)
  obtain ⟨vs, ls, e, h1, h2, h3, h4⟩ := rows_asks rs fun x hx => h x (.tail _ hx)
  refine ⟨v :: vs, l :: ls, by rw [List.flatten_cons, e]; rfl, by simpa using h1, by simpa using h2, fun a ha => ?_, fun j x a hx ha => ?_⟩
  ·rcases List.mem_cons.1 ha with rfl | ha
   ·exact hR
   ·exact h3 a ha
  ·cases j with
   | zero =>
    simp at hx ha
    subst hx ha
    exact hv
   | succ j => exact h4 j x a (by simpa using hx) (by simpa using ha)
theorem open_asks {r : Reach} {b0 : Nat} {t s e : TypeId} {v : Value} {d : DataW H} {ps : List MemPlace} (ht : P.underlying t = some (.slice s)) (hs : P.underlying s = some (.slice e)) (he : P.underlying e = some (.int .i64)) (hcs : P.cellsOf s = 1) (hce : P.cellsOf e = 1) (hval : Value.okWide P W r b0 t v) (h : DataW.Trod enc P W 0 (fun _ => true) true t v d ps) :
  ∃ (vs : List Value) (ls : List (List Int)), vs.length = ls.length ∧ (∀ l ∈ ls, Rg (-9223372036854775808) 9223372036854775807 l) ∧ IV W v vs ∧ ∀ (j : Nat) (x : Value) (l : List Int), vs[j]? = some x → ls[j]? = some l → IV W x (ints .i64 l) := by
 obtain ⟨rs, ⟨A, c, rfl, hc, hsl⟩, hrs⟩ := open_rows ht hcs hval h
 obtain ⟨vs, ls, e1, h1, h2, h3, h4⟩ := rows_asks rs fun x hx => by
  obtain ⟨_, fuel, y, hy⟩ := hrs x hx
  obtain ⟨v, l, e, hv, hR, _⟩ := cells_ints hs he hce hy
  exact ⟨v, l, e, hv, hR⟩
 exact ⟨vs, ls, h2, h3, ⟨A, c, by rw [h1], by rw [h1]; exact hc, by rw [← e1]; exact hsl⟩, h4⟩
end
end Go.Proofs.Ytgfkagaacdblbaa.W
