/- walks of the driver's Play, of the gate's methods -/
import Derived.Laws.Cover3
import Derived.Test.YtgfkagaacdblbaaYk
set_option linter.unusedVariables false
set_option linter.unusedSimpArgs false
set_option maxRecDepth 10000
namespace Go.Proofs.Ytgfkagaacdblbaa.W
open Go.Vc Go.RowKit
def whichI (p n : Int) : Int := if p.tmod n < 0 then p.tmod n + n else p.tmod n
theorem tmod_gt {p n : Int} (hn : 0 < n) : -n < p.tmod n := by
 have := Int.tmod_lt_of_pos (-p) hn
 rw [Int.neg_tmod] at this
 omega
theorem whichI_bd {p n : Int} (hn : 0 < n) : 0 ≤ whichI p n ∧ whichI p n < n := by
 have h1 := Int.tmod_lt_of_pos p hn
 have h2 : -n < p.tmod n := by
  have := Int.tmod_lt_of_pos (-p) hn
  rw [Int.neg_tmod] at this
  omega
 unfold whichI
 split <;> omega
def playStep (G : GW) (p : Int) : GW := afterDo G (whichI p (movesG G).length).toNat
inductive PlayN (G0 : GW) (l : List Int) : Nat → GW → Prop
 | zero : PlayN G0 l 0 G0
 | succ {k : Nat} {p : Int} {G : GW} (h : PlayN G0 l k G) (hm : movesG G ≠ []) (hp : l[k]? = some p) : PlayN G0 l (k + 1) (playStep G p)
theorem playStep_at {G : GW} {p : Int} (hm : movesG G ≠ []) : ∃ i, (movesG G)[(whichI p (movesG G).length).toNat]? = some i ∧ playStep G p = stepG G i ∧ i < G.hs.length ∧ mayG G i = true := by
 have hpos : 0 < (movesG G).length := List.length_pos_iff.2 hm
 have hb := whichI_bd (p := p) (show (0 : Int) < ((movesG G).length : Int) by omega)
 obtain ⟨i, hi⟩ : ∃ i, (movesG G)[(whichI p (movesG G).length).toNat]? = some i := ⟨_, List.getElem?_eq_getElem (by omega)⟩
 obtain ⟨h1, h2⟩ := moves_mem (List.mem_of_getElem? hi)
 exact ⟨i, hi, by unfold playStep afterDo; rw [hi], h1, h2⟩
theorem PlayN.wf {G0 G : GW} {l : List Int} {k : Nat} (hw : Wf G0) (h : PlayN G0 l k G) : Wf G := by
 induction h with
 | zero => exact hw
 | succ h hm hp ih =>
  obtain ⟨i, _, e, _, h2⟩ := playStep_at hm
  rw [e]
  exact ih.step h2
theorem movesR_len (l : List Nat) : (movesR l).length = l.length := by simp [movesR]
theorem moves1 {b : Nat} {X : Gm} (hwf : Wf X.abs) (w : World) (hS : Sep w.heap.size (fps (gW b X)) w (gW b X)) : CallsV P 36 [ptr b] w fun r w' => ∃ v, r = v ∧ Trans w w' (gW b X) (gW b X ++ [As.rk 47 2 v (movesR (movesG X.abs))]) :=
 Calls.mono (movesD b X hwf w hS) fun e w' ⟨v, e1, h⟩ => ⟨v, e1, v, rfl, h⟩
theorem PlayD (b : Nat) (X : Gm) (hwf : Wf X.abs) (v : Value) (l : List Int) (hl : Rg (-9223372036854775808) 9223372036854775807 l) (hll : l.length ≤ 1099511627776) (w : World) (hS : Sep w.heap.size (fps (gW b X)) w (gW b X)) (hv : ∀ w1 : World, (∀ k, k < w.heap.size → ¬ fps (gW b X) k → w1.heap[k]? = w.heap[k]?) → IV w1 v (ints .i64 l)) :
  CallsV P 32 [ptr b, v] w fun r w' => ∃ (k : Nat) (Y : Gm), r = .int .i64 (k : Int) ∧ PlayN X.abs l k Y.abs ∧ (k = l.length ∨ (k < l.length ∧ movesG Y.abs = [])) ∧ Trans w w' (gW b X) (gW b Y) := by
 refine enterW Try.func32 rfl Try.ntmps32 rfl ?_
 have hw0 : St w w.heap.size (fps (gW b X)) (gW b X) w := St.startS hS
 refine c_seq (c_region (l_assign rfl rfl rfl (l_nil (e_then ?_))))
 refine c_keep [0, 1] (.cons rfl (.cons rfl .nil)) ?_
 refine c_seq (c_seq (c_region (l_move rfl rfl rfl ?_)))
 refine v_leni rfl rfl Try.underlying23 rfl (by first | exact hw0.ibl mem0 | exact hw0.ik (by assumption) mem1 | exact hw0.io mem2 | exact hw0.ikM hv | assumption) ?_
 refine l_move rfl rfl rfl (l_nil (e_then (c_block ?_)))
 refine c_loopk (ι := Nat × Gm) (fun (z0 : Nat × Gm) => match z0 with | ⟨i, Y⟩ => l.length - i) (fun (z0 : Nat × Gm) (w' : World) => match z0 with | ⟨i, Y⟩ => St w w.heap.size (fps (gW b X)) (gW b Y) w' ∧ i ≤ l.length ∧ PlayN X.abs l i Y.abs) (fun (z0 : Nat × Gm) => match z0 with | ⟨i, Y⟩ => [(11, .int .i64 (i : Int))]) [0, 1, 9, 10] (0, X) ?_ (.cons rfl (.cons rfl (.cons rfl (.cons rfl .nil)))) ?_ ?_
 ·exact ⟨hw0, by omega, .zero⟩
 ·exact (.cons rfl (by first | rfl | (refine congrArg (Value.int _) ?_; omega)) .nil)
 rintro ⟨i, Y⟩ w1 ⟨hw1, hi, hN⟩
 show RunC P _ _ _ (_ :: _) _
 refine c_seq (c_region ?_)
 refine l_lss rfl rfl rfl rfl ?_
 refine l_nil (e_then (c_seq ?_))
 first | refine c_cond rfl (fun hc0 => ?_) (fun hc0 => ?_) | refine c_condb rfl (fun hc0 => ?_) (fun hc0 => ?_)
 ·skip
  refine c_skip (e_then ?_)
  refine c_keep [0, 1, 9, 10, 11] (.cons rfl (.cons rfl (.cons rfl (.cons rfl (.cons rfl .nil))))) ?_
  refine c_seq (c_block (c_seq (c_region ?_)))
  have hi1 : i < l.length := by omega
  have hwfY := hN.wf hwf
  have hml := movesG_len Y.abs
  have hn16 : Y.abs.hs.length ≤ 16 := hwfY.n16
  refine l_move rfl rfl rfl ?_
  refine v_getr (j := i) rfl rfl rfl rfl Try.underlying23 tz3 Try.underlying3 rfl rfl (by first | exact hw1.ibl mem0 | exact hw1.ik (by assumption) mem1 | exact hw1.io mem2 | exact hw1.ikM hv | assumption) (by assumption) rfl (by omega) (by first | omega | (simp; done) | (simp; omega)) (fun hb3_1 => ?_)
  refine l_assign rfl rfl rfl (l_assign rfl rfl rfl (l_nil (e_then ?_)))
  refine c_keep [0, 1, 5, 6, 9, 10, 11] (.cons rfl (.cons rfl (.cons rfl (.cons rfl (.cons rfl (.cons rfl (.cons rfl .nil))))))) ?_
  refine c_seq (c_region (l_move rfl rfl rfl ?_))
  refine l_call rfl rfl Try.func36 rfl rfl (.cons rfl .nil) (moves1 (b := b) (X := Y) hwfY w1 (St.rows (τ := gW b Y) hw1)) ?_
  rintro mv w2 ⟨_, rfl, hX2⟩
  have hw2 := hX2 _ _ _ _ hw1
  simp only [gW, List.cons_append, List.nil_append] at hw2
  try clear hX hw1
  refine l_assign rfl rfl rfl (l_nil (e_then ?_))
  refine c_keep [0, 1, 5, 6, 7, 9, 10, 11] (.cons rfl (.cons rfl (.cons rfl (.cons rfl (.cons rfl (.cons rfl (.cons rfl (.cons rfl .nil)))))))) ?_
  refine c_seq (c_seq (c_region (l_move rfl rfl rfl ?_)))
  refine k_len rfl rfl Try.underlying38 rfl (Own.ik (movesR_rows _) (hw2.ok mem4)) ?_
  refine l_turn (s := 19) (v' := .int .i64 ((movesG Y.abs).length : Int)) rfl (by rw [movesR_len]) ?_
  refine l_eql rfl rfl rfl rfl ?_
  refine l_nil (e_then ?_)
  refine c_keep [0, 1, 5, 6, 7, 9, 10, 11, 20] (.cons rfl (.cons rfl (.cons rfl (.cons rfl (.cons rfl (.cons rfl (.cons rfl (.cons rfl (.cons rfl .nil))))))))) ?_
  first | refine c_cond rfl (fun hc1 => ?_) (fun hc1 => ?_) | refine c_condb rfl (fun hc1 => ?_) (fun hc1 => ?_)
  ·skip
   refine c_seq (c_region (l_move rfl rfl rfl (l_assign rfl rfl rfl (l_nil (e_then ?_)))))
   refine c_keep [4] (.cons rfl .nil) ?_
   refine c_ret ?_
   refine e_then_ret ?_
   refine e_blk_ret ?_
   refine e_then_ret ?_
   refine e_then_ret ?_
   refine e_blk_ret ?_
   refine e_then_ret ?_
   refine e_done1 Try.results32 rfl ?_
   refine ⟨_, rfl, ?_⟩
   have hw3 := St.del (.tail (.tail (.tail (.tail .head)))) hw2
   try clear hw2
   refine ⟨i, Y, rfl, hN, .inr ⟨hi1, ?_⟩, hw3.transS⟩
   exact List.eq_nil_of_length_eq_zero (by omega)
  ·skip
   refine c_skip (e_then ?_)
   refine c_keep [0, 1, 6, 7, 9, 10, 11] (.cons rfl (.cons rfl (.cons rfl (.cons rfl (.cons rfl (.cons rfl (.cons rfl .nil))))))) ?_
   refine c_seq (c_region ?_)
   have hne : movesG Y.abs ≠ [] := fun h => hc1 (by rw [h]; rfl)
   have hpos : 0 < (movesG Y.abs).length := List.length_pos_iff.2 hne
   have hwb := whichI_bd (p := l.getD i 0) (show (0 : Int) < ((movesG Y.abs).length : Int) by omega)
   have htg := tmod_gt (p := l.getD i 0) (show (0 : Int) < ((movesG Y.abs).length : Int) by omega)
   obtain ⟨i0, hi0, hps, hi2, hmay2⟩ := playStep_at (p := l.getD i 0) hne
   have hi2 : i0 < Y.hs.length := by simpa [Gm.abs] using hi2
   refine l_move rfl rfl rfl (l_move rfl rfl rfl ?_)
   refine k_len rfl rfl Try.underlying38 rfl (Own.ik (movesR_rows _) (hw2.ok mem4)) ?_
   refine l_turn (s := 24) (v' := .int .i64 ((movesG Y.abs).length : Int)) rfl (by rw [movesR_len]) ?_
   refine l_rem rfl rfl rfl rfl (by omega) rfl ?_
   refine l_assign rfl rfl rfl (l_nil (e_then ?_))
   refine c_keep [0, 1, 7, 8, 9, 10, 11] (.cons rfl (.cons rfl (.cons rfl (.cons rfl (.cons rfl (.cons rfl (.cons rfl .nil))))))) ?_
   refine c_cutk (ι := Nat) (fun (kk : Nat) (w' : World) => St w w.heap.size (fps (gW b X)) (gW b Y ++ [As.rk 47 2 mv (movesR (movesG Y.abs))]) w' ∧ kk = (whichI (l.getD i 0) (movesG Y.abs).length).toNat) (fun (kk : Nat) => [(8, .int .i64 (kk : Int))]) [0, 1, 7, 9, 10, 11] (.cons rfl (.cons rfl (.cons rfl (.cons rfl (.cons rfl (.cons rfl .nil)))))) ?_ ?_
   ·skip
    refine c_seq (c_region (l_move rfl rfl rfl ?_))
    refine l_lss rfl rfl rfl rfl ?_
    refine l_nil (e_then ?_)
    refine c_keep [0, 1, 7, 8, 9, 10, 11, 27] (.cons rfl (.cons rfl (.cons rfl (.cons rfl (.cons rfl (.cons rfl (.cons rfl (.cons rfl .nil)))))))) ?_
    first | refine c_cond rfl (fun hc2 => ?_) (fun hc2 => ?_) | refine c_condb rfl (fun hc2 => ?_) (fun hc2 => ?_)
    ·skip
     refine c_region (l_move rfl rfl rfl (l_move rfl rfl rfl ?_))
     refine k_len rfl rfl Try.underlying38 rfl (Own.ik (movesR_rows _) (hw2.ok mem4)) ?_
     refine l_turn (s := 30) (v' := .int .i64 ((movesG Y.abs).length : Int)) rfl (by rw [movesR_len]) ?_
     refine l_add rfl rfl rfl rfl (w_i64 (by omega)) ?_
     refine l_assign rfl rfl rfl (l_nil ?_)
     refine e_meetk ((whichI (l.getD i 0) (movesG Y.abs).length).toNat) ?_ (.cons rfl (.cons rfl (.cons rfl (.cons rfl (.cons rfl (.cons rfl .nil)))))) ?_
     ·exact ⟨hw2, rfl⟩
     ·exact (.cons rfl (by (refine congrArg (Value.int .i64) ?_; rw [Int.toNat_of_nonneg hwb.1]; unfold whichI; split <;> first | rfl | omega)) .nil)
    ·skip
     refine c_skip ?_
     refine e_meetk ((whichI (l.getD i 0) (movesG Y.abs).length).toNat) ?_ (.cons rfl (.cons rfl (.cons rfl (.cons rfl (.cons rfl (.cons rfl .nil)))))) ?_
     ·exact ⟨hw2, rfl⟩
     ·exact (.cons rfl (by (refine congrArg (Value.int .i64) ?_; rw [Int.toNat_of_nonneg hwb.1]; unfold whichI; split <;> first | rfl | omega)) .nil)
   rintro kk w4 ⟨hw4, hkk⟩
   show RunC P _ _ _ (_ :: _) _
   refine c_region ?_
   have hmr : (movesR (movesG Y.abs))[kk]? = some [.int .i64 (i0 : Int), .int .i64 0] := by rw [hkk]; unfold movesR; rw [List.getElem?_map, hi0]; rfl
   refine l_move rfl rfl rfl (l_move rfl rfl rfl (l_move rfl rfl rfl ?_))
   refine k_addr (j := kk) rfl rfl Try.underlying38 tz47 (by decide) rfl rfl (Own.ik (movesR_rows _) (hw4.ok mem4)) rfl (by rw [movesR_len]; omega) (fun A10 c10 hA10 => ?_)
   refine k_load (j := kk) rfl rfl Try.underlying47 rfl tz47 rfl hA10 (Own.ik (movesR_rows _) (hw4.ok mem4)) hmr ?_
   refine l_call rfl rfl Try.func54 rfl rfl (.cons rfl (.cons rfl .nil)) (moveD b Y hwfY i0 hi2 hmay2 0 w4 (St.rows (τ := gW b Y) hw4)) ?_
   rintro _ w5 ⟨Y2, rfl, hY2, hX2⟩
   have hw5 := hX2 _ _ _ _ hw4
   simp only [gW, List.cons_append, List.nil_append] at hw5
   try clear hX hw4
   refine l_nil ?_
   refine e_blk ?_
   refine e_then ?_
   refine c_keep [0, 1, 9, 10, 11] (.cons rfl (.cons rfl (.cons rfl (.cons rfl (.cons rfl .nil))))) ?_
   refine c_region ?_
   refine l_add rfl rfl rfl rfl (w_i64 (by omega)) ?_
   refine l_move rfl rfl rfl (l_nil ?_)
   rw [← hps] at hY2
   have hw6 := St.del (.tail (.tail (.tail (.tail .head)))) hw5
   try clear hw5
   refine e_againk (i := (i, Y)) (i + 1, Y2) ?_ ?_ (.cons rfl (.cons rfl (.cons rfl (.cons rfl .nil)))) ?_
   ·first | omega | (simp; omega)
   ·exact ⟨hw6, by omega, by rw [hY2]; exact .succ hN hne (by simp [List.getD, hi1])⟩
   ·exact (.cons rfl (by first | rfl | (refine congrArg (Value.int _) ?_; omega)) .nil)
 ·skip
  refine c_exit ?_
  refine e_then_exit ?_
  refine e_then_exit ?_
  refine e_blk_exit ?_
  refine e_then ?_
  refine c_keep [1] (.cons rfl .nil) ?_
  refine c_seq (c_region (l_move rfl rfl rfl ?_))
  refine v_leni rfl rfl Try.underlying23 rfl (by first | exact hw1.ibl mem0 | exact hw1.ik (by assumption) mem1 | exact hw1.io mem2 | exact hw1.ikM hv | assumption) ?_
  refine l_assign rfl rfl rfl (l_nil (e_then ?_))
  refine c_keep [4] (.cons rfl .nil) ?_
  refine c_ret ?_
  refine e_done1 Try.results32 rfl ?_
  refine ⟨_, rfl, ?_⟩
  obtain rfl : i = l.length := by omega
  exact ⟨_, Y, rfl, hN, .inl rfl, hw1.transS⟩
theorem MovesG (b : Nat) (X : Gm) (hwf : Wf X.abs) (w : World) (hS : Sep w.heap.size (fps (gW b X)) w (gW b X)) :
  CallsV P 17 [ptr b] w fun r w' => ∃ v, r = v ∧ Trans w w' (gW b X) (gW b X ++ [As.rk 47 2 v (movesR (movesG X.abs))]) := by
 refine enterW Try.func17 rfl Try.ntmps17 rfl ?_
 have hw0 : St w w.heap.size (fps (gW b X)) (gW b X) w := St.startS hS
 refine c_seq (c_region (l_assign rfl rfl rfl (l_nil (e_then ?_))))
 refine c_keep [0] (.cons rfl .nil) ?_
 refine c_seq (c_region (l_move rfl rfl rfl (l_nilCheck rfl rfl rfl (l_field fo66_0 rfl rfl rfl ?_))))
 refine l_call rfl rfl Try.func36 rfl rfl (.cons rfl .nil) (moves1 (b := b) (X := X) hwf w (St.rows (τ := gW b X) hw0)) ?_
 rintro mv w1 ⟨_, rfl, hX2⟩
 have hw1 := hX2 _ _ _ _ hw0
 simp only [gW, List.cons_append, List.nil_append] at hw1
 try clear hX hw0
 refine l_assign rfl rfl rfl (l_nil (e_then ?_))
 refine c_keep [2] (.cons rfl .nil) ?_
 refine c_ret ?_
 refine e_done1 Try.results17 rfl ?_
 refine ⟨_, rfl, ?_⟩
 exact ⟨mv, rfl, hw1.transS⟩
theorem PlayG (b : Nat) (X : Gm) (hwf : Wf X.abs) (v : Value) (l : List Int) (hl : Rg (-9223372036854775808) 9223372036854775807 l) (hll : l.length ≤ 1099511627776) (w : World) (hS : Sep w.heap.size (fps (gW b X)) w (gW b X)) (hv : ∀ w1 : World, (∀ k, k < w.heap.size → ¬ fps (gW b X) k → w1.heap[k]? = w.heap[k]?) → IV w1 v (ints .i64 l)) :
  CallsV P 12 [ptr b, v] w fun r w' => ∃ (k : Nat) (Y : Gm), r = .int .i64 (k : Int) ∧ PlayN X.abs l k Y.abs ∧ (k = l.length ∨ (k < l.length ∧ movesG Y.abs = [])) ∧ Trans w w' (gW b X) (gW b Y) := by
 refine enterW Try.func12 rfl Try.ntmps12 rfl ?_
 have hw0 : St w w.heap.size (fps (gW b X)) (gW b X) w := St.startS hS
 refine c_seq (c_region (l_assign rfl rfl rfl (l_nil (e_then ?_))))
 refine c_keep [0, 1] (.cons rfl (.cons rfl .nil)) ?_
 refine c_seq (c_region (l_move rfl rfl rfl (l_nilCheck rfl rfl rfl (l_field fo66_0 rfl rfl rfl (l_move rfl rfl rfl ?_)))))
 refine l_call rfl rfl Try.func32 rfl rfl (.cons rfl (.cons rfl .nil)) (PlayD b X hwf v l hl hll w (St.rows (τ := gW b X) hw0) hv) ?_
 rintro _ w1 ⟨k, Y, rfl, hN, hE, hX2⟩
 have hw1 := hX2 _ _ _ [] hw0
 simp only [gW, List.cons_append, List.nil_append] at hw1
 try clear hX hw0
 refine l_assign rfl rfl rfl (l_nil (e_then ?_))
 refine c_keep [4] (.cons rfl .nil) ?_
 refine c_ret ?_
 refine e_done1 Try.results12 rfl ?_
 refine ⟨_, rfl, ?_⟩
 exact ⟨k, Y, rfl, hN, hE, hw1.transS⟩
theorem RestG (b : Nat) (X : Gm) (hwf : Wf X.abs) (w : World) (hS : Sep w.heap.size (fps (gW b X)) w (gW b X)) :
  CallsV P 13 [ptr b] w fun r w' => ∃ (k : Nat) (Y : Gm), r = .int .i64 (k : Int) ∧ NextN X.abs k Y.abs ∧ nextG Y.abs = none ∧ Trans w w' (gW b X) (gW b Y) := by
 refine enterW Try.func13 rfl Try.ntmps13 rfl ?_
 have hw0 : St w w.heap.size (fps (gW b X)) (gW b X) w := St.startS hS
 refine c_seq (c_region (l_assign rfl rfl rfl (l_nil (e_then ?_))))
 refine c_keep [0] (.cons rfl .nil) ?_
 refine c_seq (c_region (l_move rfl rfl rfl (l_nilCheck rfl rfl rfl (l_field fo66_0 rfl rfl rfl ?_))))
 refine l_call rfl rfl Try.func33 rfl rfl (.cons rfl .nil) (RestD b X hwf w (St.rows (τ := gW b X) (σ := []) hw0)) ?_
 rintro _ w1 ⟨k, Y, rfl, hN, hE, hX2⟩
 have hw1 := hX2 _ _ _ [] hw0
 simp only [gW, List.cons_append, List.nil_append] at hw1
 try clear hX hw0
 refine l_assign rfl rfl rfl (l_nil (e_then ?_))
 refine c_keep [2] (.cons rfl .nil) ?_
 refine c_ret ?_
 refine e_done1 Try.results13 rfl ?_
 refine ⟨_, rfl, ?_⟩
 exact ⟨k, Y, rfl, hN, hE, hw1.transS⟩
theorem BuiltG (b : Nat) (X : Gm) (hX : X.sg.length = 41) (s : Int) (w : World) (hGF : GF b X w) :
  CallsV P 16 [ptr b, .int .i64 s] w fun r w' => r = .int .i64 (sgF X.abs s).built ∧ w = w' := by
 refine enterW Try.func16 rfl Try.ntmps16 rfl ?_
 refine c_seq (c_region (l_assign rfl rfl rfl (l_nil (e_then ?_))))
 refine c_keep [0, 1] (.cons rfl (.cons rfl .nil)) ?_
 refine c_seq (c_region (l_move rfl rfl rfl (l_nilCheck rfl rfl rfl (l_field fo66_1 rfl rfl rfl (l_move rfl rfl rfl ?_)))))
 refine l_callp rfl rfl Try.func35 rfl rfl (.cons rfl (.cons rfl .nil)) (BuiltT b X hX s _ hGF.hb) ?_
 refine l_assign rfl rfl rfl (l_nil (e_then ?_))
 refine c_keep [4] (.cons rfl .nil) ?_
 refine c_ret ?_
 refine e_done1 Try.results16 rfl ?_
 refine ⟨_, rfl, ?_⟩
 exact ⟨rfl, rfl⟩
theorem CompleteG (b : Nat) (X : Gm) (hX : X.sg.length = 41) (s : Int) (w : World) (hGF : GF b X w) :
  CallsV P 20 [ptr b, .int .i64 s] w fun r w' => r = .bool (sgF X.abs s).done ∧ w = w' := by
 refine enterW Try.func20 rfl Try.ntmps20 rfl ?_
 refine c_seq (c_region (l_assign rfl rfl rfl (l_nil (e_then ?_))))
 refine c_keep [0, 1] (.cons rfl (.cons rfl .nil)) ?_
 refine c_seq (c_region (l_move rfl rfl rfl (l_nilCheck rfl rfl rfl (l_field fo66_1 rfl rfl rfl (l_move rfl rfl rfl ?_)))))
 refine l_callp rfl rfl Try.func38 rfl rfl (.cons rfl (.cons rfl .nil)) (CompleteT b X hX s _ hGF.hb) ?_
 refine l_assign rfl rfl rfl (l_nil (e_then ?_))
 refine c_keep [4] (.cons rfl .nil) ?_
 refine c_ret ?_
 refine e_done1 Try.results20 rfl ?_
 refine ⟨_, rfl, ?_⟩
 exact ⟨rfl, rfl⟩
theorem LaidG (b : Nat) (X : Gm) (hwf : Wf X.abs) (s : Int) (w : World) (hGF : GF b X w) :
  CallsV P 23 [ptr b, .int .i64 s] w fun r w' => r = .int .i64 ((sgF X.abs s).laid : Int) ∧ w = w' := by
 refine enterW Try.func23 rfl Try.ntmps23 rfl ?_
 refine c_seq (c_region (l_assign rfl rfl rfl (l_nil (e_then ?_))))
 refine c_keep [0, 1] (.cons rfl (.cons rfl .nil)) ?_
 refine c_seq (c_region (l_move rfl rfl rfl (l_nilCheck rfl rfl rfl (l_field fo66_1 rfl rfl rfl (l_move rfl rfl rfl ?_)))))
 refine l_callp rfl rfl Try.func41 rfl rfl (.cons rfl (.cons rfl .nil)) (LaidT b X hwf.sgX s (fun s y hy => by have := (hwf.sok s y.s (by show (X.sg.map (·.s))[s]? = _; rw [List.getElem?_map, hy]; rfl)).le; exact this) _ hGF.hb (fun s y hy => (hGF.vs hy).1)) ?_
 refine l_assign rfl rfl rfl (l_nil (e_then ?_))
 refine c_keep [4] (.cons rfl .nil) ?_
 refine c_ret ?_
 refine e_done1 Try.results23 rfl ?_
 refine ⟨_, rfl, ?_⟩
 exact ⟨rfl, rfl⟩
theorem HandG (b : Nat) (X : Gm) (hwf : Wf X.abs) (i : Int) (w : World) (hGF : GF b X w) :
  CallsV P 18 [ptr b, .int .i64 i] w fun r w' => r = handVal (handF X.abs i) ∧ Grow w w' [] := by
 refine enterW Try.func18 rfl Try.ntmps18 rfl ?_
 have hw0 := St.start w
 refine c_seq (c_region ?_)
 refine l_alloc hw0 ta41 rfl rfl (fun b0_0 w1 hw1 => ?_)
 try clear hw0
 refine l_nil (e_then (c_seq (c_region (l_move rfl rfl rfl (l_nilCheck rfl rfl rfl ?_)))))
 refine l_field fo66_0 rfl rfl rfl (l_move rfl rfl rfl ?_)
 refine l_call rfl rfl Try.func37 rfl rfl (.cons rfl (.cons rfl .nil)) (HandD b X hwf i w1 (hGF.arg hw1)) ?_
 rintro _ w2 ⟨rfl, hG⟩
 have hw2 := hG _ _ _ _ hw1
 try clear hG hw1
 simp only [List.cons_append, List.nil_append] at hw2
 refine l_store_blks hw2 .head (.zero (.zero (.zero .nil))) rfl tz41 rfl rfl (by first | (simp [Value.oneCell']; done) | (intro u hu; simp only [List.mem_cons, List.not_mem_nil, or_false] at hu; rcases hu with rfl | rfl | rfl <;> first | rfl | assumption)) (fun w3 hw3 => ?_)
 try clear hw2
 refine l_nil (e_then ?_)
 refine c_keep [4] (.cons rfl .nil) ?_
 refine c_ret ?_
 refine e_doneC Try.results18 (.cell rfl (load_agg_run hw3 mem0 Try.underlying41 rfl tz41 (.take (.take (.take .nil)))) .nil) ?_
 refine ⟨_, rfl, ?_⟩
 have hw4 := St.del .head hw3
 try clear hw3
 exact ⟨rfl, hw4.grows⟩
section
variable {P : Program} {N : Nat} {ρ : Env} {w w0 : World} {ops : Array Oper} {rest : List Oper} {d : Nat} {ty : TypeId} {pos : String} {af : Array Edge} {g : Option (Nat × Bool)} {B : Nat} {M : Nat → Prop} {σ : List As}
theorem l_eqlsn {Q : PostM} {x : Operand} {A : Option Addr} {n c : Nat} {T U e : TypeId} (hT : P.underlying T = some (.slice e)) (hg : wantE ops ρ g = true) (hN : Nat.blt d N = true) (hx : evalE ρ x = some (.slice A n c)) (h : RunL P N ops Q rest ((d, .bool (decide (A.isNone = true))) :: ρ) w) : RunL P N ops Q (⟨some d, .binOp .eql T x (.const (.slice none 0 0)) U, ty, pos, af, g⟩ :: rest) ρ w :=
 l_val hg rfl hN (fun a ha => by
  have hgd : (eqGuard .eql T x (.const (.slice none 0 0)) (.slice A n c) (.slice none 0 0)).run P w = .ok () w := by simp [eqGuard]
  have hy : a.eval (.const (.slice none 0 0)) = .slice none 0 0 := rfl
  simp only [execOp, ha.eval hx, hy, Sem.run_bind, hgd, Result.andThen_ok]
  rw [show (binOp .eql T (.slice A n c) (.slice none 0 0)).run P w = .ok (.bool A.isNone) w by simp only [binOp]; simp [run_equal_slice_nil w T e A n c hT]]
  cases A <;> rfl) h
theorem v_lit0k {Q : Post} {t e k : Nat} (hw : St w0 B M σ w) (hg : wantE ops ρ g = true) (hN : Nat.blt d N = true) (hT : P.underlying t = some (.slice e)) (hsz : (P.info? e).map (·.size) = some k)
  (n : ∀ v w', St w0 B M (As.rk e k v [] :: σ) w' → RunL P N ops ⟨false, Q⟩ rest ((d, v) :: ρ) w') : RunL P N ops ⟨false, Q⟩ (⟨some d, .buildSlice t 0 #[], ty, pos, af, g⟩ :: rest) ρ w := by
 cases hq : P.info? e with
 | none => simp [hq] at hsz
 | some i =>
  have h1 : i.size = k := by simpa [hq] using hsz
  refine l_valw (v := .slice (some ⟨w.heap.size, 0, none⟩) 0 0) (fun h => by cases h) hg rfl hN (fun a ha => ?_) (n _ (w.alloc (.cells #[] e)) (hw.new _ _ ⟨by simp, .inr ⟨w.heap.size, 0, 0, #[], rfl, Nat.le_refl _, by simp, heap_alloc_new w _, by simp, by simp⟩⟩ fun k hk => ?_))
  ·simp [execOp, Instr.buildSlice, run_underlying hT, sizeOf, typeInfo, hq, h1, Instr.fill, newRow]
   rw [show ∀ f : Nat → Value, Array.map f (Array.range 0) = #[] from fun f => by apply Array.eq_empty_of_size_eq_zero; simp]
  ·simpa [As.own, Value.ownBlock] using hk.symm
theorem k_appends {Q : Post} {s x : Operand} {t e : TypeId} {z v vx : Value} {k bytes : Nat} {rs ns : List (List Value)} (hw : St w0 B M (As.rk e k v rs :: σ) w) (hg : wantE ops ρ g = true) (hN : Nat.blt d N = true) (ht : P.underlying t = some (.slice e)) (hi : (P.info? e).map (fun i => (i.zero, i.size, i.bytes)) = some (some z, k, bytes)) (hzs : z.cells.size = k) (hk : 0 < k)
  (hs : evalE ρ s = some v) (hx : evalE ρ x = some vx) (hn : IK w k vx ns) (hbytes : (rs.length + ns.length) * bytes ≤ 140737488355328) (h63 : rs.length + ns.length ≤ 9223372036854775807)
  (nx : ∀ v' w', St w0 B M (As.rk e k v' (rs ++ ns) :: σ) w' → RunL P N ops ⟨false, Q⟩ rest ((d, v') :: ρ) w') : RunL P N ops ⟨false, Q⟩ (⟨some d, .call ⟨.builtin .append, #[s, x], #[t, t]⟩, ty, pos, af, g⟩ :: rest) ρ w := by
 obtain ⟨hR, A, c, rfl, hc, hsl⟩ := hn
 refine l_append0 hw hg hN ht hi hzs hs hx hR.len hsl (fun h => ?_) (fun u hu => ?_) hbytes h63 (fun A' c' w' hw' => nx _ w' (hw'.cast (by unfold As.rk; rw [List.length_append, List.flatten_append])))
 ·rcases Nat.eq_zero_or_pos ns.length with h0 | h0
  ·exact h0
  ·obtain ⟨ad, e⟩ := hsl.some_ (by rw [hR.len]; exact Nat.mul_pos h0 hk)
   rw [h] at e
   cases e
 ·obtain ⟨r, hr, hu⟩ := List.mem_flatten.1 hu
  exact (hR r hr).2 u hu
end
theorem cloneW (v : Value) (rs : List (List Value)) (hl : rs.length ≤ 100000) (w : World) (hv : IK w 2 v rs) :
  CallsV P 34 [v] w fun r w' => ∃ v', r = v' ∧ Grow w w' [As.rk 77 2 v' rs] := by
 refine enterW Try.func34 rfl Try.ntmps34 rfl ?_
 have hw0 := St.start w
 obtain ⟨hRs, A, c, rfl, hc, hsl⟩ := hv
 have hv : IK w 2 (.slice A rs.length c) rs := ⟨hRs, A, c, rfl, hc, hsl⟩
 refine c_seq (c_region (l_assign rfl rfl rfl (l_nil (e_then ?_))))
 refine c_keep [0] (.cons rfl .nil) ?_
 refine c_seq (c_seq (c_region (l_move rfl rfl rfl ?_)))
 refine l_eqlsn Try.underlying34 rfl rfl rfl ?_
 refine l_nil (e_then ?_)
 refine c_keep [0, 4] (.cons rfl (.cons rfl .nil)) ?_
 first | refine c_cond rfl (fun hc0 => ?_) (fun hc0 => ?_) | refine c_condb rfl (fun hc0 => ?_) (fun hc0 => ?_)
 ·skip
  refine c_seq (c_region (l_assign rfl rfl rfl (l_nil (e_then ?_))))
  refine c_keep [2] (.cons rfl .nil) ?_
  refine c_ret ?_
  refine e_then_ret ?_
  refine e_done1 Try.results34 rfl ?_
  refine ⟨_, rfl, ?_⟩
  have hA : A = none := by simpa using hc0
  obtain rfl : rs = [] := by
   rcases Nat.eq_zero_or_pos rs.length with h0 | h0
   ·exact List.eq_nil_of_length_eq_zero h0
   ·obtain ⟨ad, e⟩ := hsl.some_ (by rw [hRs.len]; omega)
    rw [hA] at e
    cases e
  exact ⟨_, rfl, (hw0.nilk 77 2).grows⟩
 ·skip
  refine c_skip (e_then ?_)
  refine c_keep [0] (.cons rfl .nil) ?_
  refine c_seq (c_region ?_)
  refine v_lit0k hw0 rfl rfl Try.underlying34 tz77 (fun v3_0 w1 hw1 => ?_)
  refine l_move rfl rfl rfl ?_
  refine k_appends hw1 rfl rfl Try.underlying34 ti77 rfl (by decide) rfl rfl (hw1.ikarg hv) (by simp; omega) (by simp; omega) (fun v3_2 w2 hw2 => ?_)
  refine l_assign rfl rfl rfl (l_nil (e_then ?_))
  refine c_keep [2] (.cons rfl .nil) ?_
  refine c_ret ?_
  refine e_done1 Try.results34 rfl ?_
  refine ⟨_, rfl, ?_⟩
  exact ⟨_, rfl, hw2.grows⟩
theorem OverG (b : Nat) (X : Gm) (hwf : Wf X.abs) (w : World) (hGF : GF b X w) :
  CallsV P 21 [ptr b] w fun r w' => r = .bool (overG X.abs) ∧ Grow w w' [] := by
 refine enterW Try.func21 rfl Try.ntmps21 rfl ?_
 have hw0 := St.start w
 refine c_seq (c_region (l_assign rfl rfl rfl (l_nil (e_then ?_))))
 refine c_keep [0] (.cons rfl .nil) ?_
 refine c_seq ?_
 have hw1 := hw0.drewn
 try clear hw0
 refine c_any (n := 9) [false, false, false, false, false, false, false, false, false] (fun wS => True) (by kernel_rfl) rfl rfl ?_
 apply a_take (L' := [true, false, false, false, false, false, false, false, false]) 0 rfl (by kernel_rfl) (by kernel_rfl) (by kernel_rfl) rfl rfl rfl rfl rfl (trivial)
 ·intro wS sS
  refine l_move rfl rfl rfl (l_nil ?_)
  exact e_got rfl
 refine a_nil (L' := [true, true, false, false, false, false, false, false, false]) 1 rfl (by kernel_rfl) (by kernel_rfl) (by kernel_rfl) rfl rfl rfl (trivial) rfl ?_
 apply a_take (L' := [true, true, true, false, false, false, false, false, false]) 2 rfl (by kernel_rfl) (by kernel_rfl) (by kernel_rfl) rfl rfl rfl rfl rfl (trivial)
 ·intro wS sS
  refine l_field fo66_0 rfl rfl rfl (l_nil ?_)
  exact e_got rfl
 apply a_take (L' := [true, true, true, true, false, false, false, false, false]) 3 rfl (by kernel_rfl) (by kernel_rfl) (by kernel_rfl) rfl rfl rfl rfl rfl (trivial)
 ·intro wS sS
  refine l_move rfl rfl rfl (l_nil ?_)
  exact e_got rfl
 refine a_nil (L' := [true, true, true, true, true, false, false, false, false]) 4 rfl (by kernel_rfl) (by kernel_rfl) (by kernel_rfl) rfl rfl rfl (trivial) rfl ?_
 apply a_take (L' := [true, true, true, true, true, true, false, false, false]) 5 rfl (by kernel_rfl) (by kernel_rfl) (by kernel_rfl) rfl rfl rfl rfl rfl (trivial)
 ·intro wS sS
  refine l_field fo66_0 rfl rfl rfl (l_nil ?_)
  exact e_got rfl
 refine a_one (L' := [true, true, true, true, true, true, true, false, false]) 6 (by kernel_rfl) rfl rfl ?_
 refine l_callp rfl rfl Try.func40 rfl rfl (.cons rfl .nil) (HandsD b X w.drew (hGF.arg hw1)) ?_
 refine l_nil ?_
 refine e_any (trivial) ?_
 refine a_one (L' := [true, true, true, true, true, true, true, true, false]) 7 (by kernel_rfl) rfl rfl ?_
 refine l_call rfl rfl Try.func39 rfl rfl (.cons rfl (.cons rfl (.cons rfl .nil))) (OverD b X hwf w.drew (hGF.arg hw1)) ?_
 rintro _ w2 ⟨rfl, hG⟩
 have hw2 := hG _ _ _ _ hw1
 try clear hG hw1
 simp only [List.cons_append, List.nil_append] at hw2
 refine l_nil ?_
 refine e_any (trivial) ?_
 apply a_take (L' := [true, true, true, true, true, true, true, true, true]) 8 rfl (by kernel_rfl) (by kernel_rfl) (by kernel_rfl) rfl rfl rfl rfl rfl (trivial)
 ·intro wS sS
  refine l_assign rfl rfl rfl (l_nil ?_)
  exact e_got rfl
 refine a_done (by kernel_rfl) ?_
 refine e_then ?_
 refine c_keep [2] (.cons rfl .nil) ?_
 refine c_ret ?_
 refine e_done1 Try.results21 rfl ?_
 refine ⟨_, rfl, ?_⟩
 exact ⟨rfl, hw2.grows⟩
def readF (G : GW) (i : Int) : List (List Value) := if 0 ≤ i then (match G.hs[i.toNat]? with
 | some h => readA (h.asks.take h.nx)
 | none => []) else []
theorem ReadG (b : Nat) (X : Gm) (hwf : Wf X.abs) (i : Int) (w : World) (hGF : GF b X w) :
  CallsV P 15 [ptr b, .int .i64 i] w fun r w' => ∃ v, r = v ∧ Grow w w' [As.rk 77 2 v (readF X.abs i)] := by
 refine enterW Try.func15 rfl Try.ntmps15 rfl ?_
 have hw0 := St.start w
 have hn16 : X.hs.length ≤ 16 := by simpa [Gm.abs] using hwf.n16
 have hfr16 : X.fr ≤ 16 := hwf.fr
 refine c_seq (c_region (l_assign rfl rfl rfl (l_nil (e_then ?_))))
 refine c_keep [0, 1] (.cons rfl (.cons rfl .nil)) ?_
 refine c_seq (c_seq (c_region (l_move rfl rfl rfl ?_)))
 refine l_lss rfl rfl rfl rfl ?_
 refine l_move rfl rfl rfl ?_
 apply l_or 7 [0, 1] rfl rfl (.cons rfl (.cons rfl (.cons rfl .nil))) rfl rfl (fun _ => rfl) rfl rfl rfl
 ·intro hg1_3
  refine l_move rfl rfl rfl (l_move rfl rfl rfl (l_nilCheck rfl rfl rfl (l_field fo66_2 rfl rfl rfl ?_)))
  refine l_load_blk (blk_st (hGF.arg hw0).hb) mem0 rfl rfl Try.underlying56 rfl rfl (gC_vr hwf.sgX) ?_
  refine v_len rfl rfl Try.underlying56 rfl (hGF.arg hw0).hr ?_
  refine l_turn (s := 13) (v' := .int .i64 (X.hs.length : Int)) rfl (by rw [List.length_map]) ?_
  refine l_geq rfl rfl rfl rfl ?_
  refine l_nil ?_
  exact e_stays rfl (.cons rfl (congrArg Value.bool (decide_eq_false hg1_3).symm) (.cons rfl rfl (.cons rfl rfl .nil)))
  all_goals infer_instance
 refine l_nil (e_then ?_)
 refine c_keep [0, 1, 15] (.cons rfl (.cons rfl (.cons rfl .nil))) ?_
 first | refine c_cond rfl (fun hc0 => ?_) (fun hc0 => ?_) | refine c_condb rfl (fun hc0 => ?_) (fun hc0 => ?_)
 ·skip
  refine c_seq (c_region (l_assign rfl rfl rfl (l_nil (e_then ?_))))
  refine c_keep [4] (.cons rfl .nil) ?_
  refine c_ret ?_
  refine e_then_ret ?_
  refine e_done1 Try.results15 rfl ?_
  refine ⟨_, rfl, ?_⟩
  have e : readF X.abs i = [] := by
   unfold readF
   split
   ·rename_i h
    rw [List.getElem?_eq_none (by simp only [Gm.abs, List.length_map]; omega)]
   ·rfl
  rw [e]
  exact ⟨_, rfl, (hw0.nilk 77 2).grows⟩
 ·skip
  refine c_skip (e_then ?_)
  refine c_keep [0, 1] (.cons rfl (.cons rfl .nil)) ?_
  refine c_seq (c_region ?_)
  have hin : 0 ≤ i ∧ i < X.hs.length := by omega
  obtain ⟨m, hm⟩ : ∃ m, X.hs[i.toNat]? = some m := ⟨_, List.getElem?_eq_getElem (by omega)⟩
  have hrl : (readA (m.h.asks.take m.h.nx)).length ≤ 100000 := by
   have := (hwf.hd _ _ (abs_hs hm)).al
   simp [readA]
   omega
  refine l_move rfl rfl rfl (l_nilCheck rfl rfl rfl (l_field fo66_2 rfl rfl rfl ?_))
  refine l_load_blk (blk_st (hGF.arg hw0).hb) mem0 rfl rfl Try.underlying56 rfl rfl (gC_vr hwf.sgX) ?_
  refine l_move rfl rfl rfl ?_
  refine l_turn (s := 20) (v' := .int .i64 ((i.toNat : Nat) : Int)) rfl (congrArg (Value.int .i64) (by omega)) ?_
  refine v_get rfl rfl rfl rfl Try.underlying56 tz34 Try.underlying34 rfl rfl rfl (hGF.arg hw0).hr (by rw [List.length_map]; omega) (show (X.hs.map (·.vd))[i.toNat]? = some m.vd by rw [List.getElem?_map, hm]; rfl) ?_ rfl
  refine l_call rfl rfl Try.func34 rfl rfl (.cons rfl .nil) (cloneW m.vd _ hrl w ((hGF.arg hw0).vd hm)) ?_
  rintro v w1 ⟨_, rfl, hG⟩
  have hw1 := hG _ _ _ _ hw0
  try clear hG hw0
  simp only [List.cons_append, List.nil_append] at hw1
  refine l_assign rfl rfl rfl (l_nil (e_then ?_))
  refine c_keep [4] (.cons rfl .nil) ?_
  refine c_ret ?_
  refine e_done1 Try.results15 rfl ?_
  refine ⟨_, rfl, ?_⟩
  have e : readF X.abs i = readA (m.h.asks.take m.h.nx) := by
   unfold readF
   rw [if_pos hin.1, abs_hs hm]
  rw [e]
  exact ⟨_, rfl, hw1.grows⟩
theorem l_movesLen {G : GW} {k : Nat} : ((movesG G)[k]?).isSome = decide (k < (movesG G).length) := by
 by_cases h : k < (movesG G).length
 ·rw [List.getElem?_eq_getElem h]; simp [h]
 ·rw [List.getElem?_eq_none (by omega)]; simp [h]
def doRes (G : GW) (k : Int) : Int × GW := if 0 ≤ k ∧ k < (movesG G).length then (0, afterDo G k.toNat) else (281, G)
theorem DoG (b : Nat) (X : Gm) (hwf : Wf X.abs) (k : Int) (hk : -9223372036854775808 ≤ k ∧ k ≤ 9223372036854775807) (w : World) (hS : Sep w.heap.size (fps (gW b X)) w (gW b X)) :
  CallsV P 24 [ptr b, .int .i64 k] w fun r w' => ∃ Y : Gm, r = .int .i64 (doRes X.abs k).1 ∧ Y.abs = (doRes X.abs k).2 ∧ Trans w w' (gW b X) (gW b Y) := by
 refine enterW Try.func24 rfl Try.ntmps24 rfl ?_
 have hw0 : St w w.heap.size (fps (gW b X)) (gW b X) w := St.startS hS
 refine c_seq (c_region (l_assign rfl rfl rfl (l_nil (e_then ?_))))
 refine c_keep [0, 1] (.cons rfl (.cons rfl .nil)) ?_
 refine c_seq (c_seq (c_region (l_move rfl rfl rfl ?_)))
 refine l_lss rfl rfl rfl rfl ?_
 refine l_move rfl rfl rfl ?_
 rcases Classical.em (k < 0) with hk0 | hk0
 ·skip
  refine l_turn (s := 7) (v' := .bool true) rfl (by rw [decide_eq_true hk0]) ?_
  refine l_spurn rfl rfl ?_
  refine l_spurn rfl rfl ?_
  refine l_spurn rfl rfl ?_
  refine l_spurn rfl rfl ?_
  refine l_spurn rfl rfl ?_
  refine l_spurn rfl rfl ?_
  refine l_pick_t rfl rfl rfl rfl ?_
  refine l_nil (e_then ?_)
  refine c_keep [14] (.cons rfl .nil) ?_
  refine c_cond_t rfl rfl ?_
  refine c_seq (c_region (l_assign rfl rfl rfl (l_nil (e_then ?_))))
  refine c_keep [4] (.cons rfl .nil) ?_
  refine c_ret ?_
  refine e_then_ret ?_
  refine e_done1 Try.results24 rfl ?_
  refine ⟨_, rfl, ?_⟩
  have e : doRes X.abs k = (281, X.abs) := if_neg (by omega)
  rw [e]
  exact ⟨X, rfl, rfl, hw0.transS⟩
 ·skip
  refine l_turn (s := 7) (v' := .bool false) rfl (by rw [decide_eq_false hk0]) ?_
  refine l_move rfl rfl rfl (l_nilCheck rfl rfl rfl (l_field fo66_0 rfl rfl rfl (l_move rfl rfl rfl ?_)))
  refine l_call rfl rfl Try.func42 rfl rfl (.cons rfl (.cons rfl .nil)) (doD b X hwf k (by omega) w (St.rows (τ := gW b X) (σ := []) hw0)) ?_
  rintro _ w90 ⟨Y, rfl, hY, hX⟩
  have hw90 := hX _ _ _ [] hw0
  simp only [gW, List.cons_append, List.nil_append] at hw90
  clear hX
  refine l_not rfl rfl rfl ?_
  refine l_pick_f rfl rfl rfl rfl ?_
  refine l_nil (e_then ?_)
  refine c_keep [14] (.cons rfl .nil) ?_
  first | refine c_cond rfl (fun hc1 => ?_) (fun hc1 => ?_) | refine c_condb rfl (fun hc1 => ?_) (fun hc1 => ?_)
  ·skip
   refine c_seq (c_region (l_assign rfl rfl rfl (l_nil (e_then ?_))))
   refine c_keep [4] (.cons rfl .nil) ?_
   refine c_ret ?_
   refine e_then_ret ?_
   refine e_done1 Try.results24 rfl ?_
   refine ⟨_, rfl, ?_⟩
   have hlt : ¬ k < (movesG X.abs).length := by
    have h := hc1
    rw [l_movesLen] at h
    simp at h
    omega
   have e : doRes X.abs k = (281, X.abs) := if_neg (by omega)
   have e2 : afterDo X.abs k.toNat = X.abs := by
    unfold afterDo
    rw [List.getElem?_eq_none (by omega)]
   rw [e]
   exact ⟨Y, rfl, by rw [hY, e2], hw90.transS⟩
  ·skip
   refine c_skip (e_then ?_)
   refine c_keep [] .nil ?_
   refine c_seq (c_region (l_assign rfl rfl rfl (l_nil (e_then ?_))))
   refine c_ret ?_
   refine e_done1 Try.results24 rfl ?_
   refine ⟨_, rfl, ?_⟩
   have hlt : k < (movesG X.abs).length := by
    have h := hc1
    rw [l_movesLen] at h
    simp at h
    omega
   have e : doRes X.abs k = (0, afterDo X.abs k.toNat) := if_pos (by omega)
   rw [e]
   exact ⟨Y, rfl, hY, hw90.transS⟩
section
variable {P : Program} {N : Nat} {ρ : Env} {w w0 : World} {ops : Array Oper} {rest : List Oper} {d : Nat} {ty : TypeId} {pos : String} {af : Array Edge} {g : Option (Nat × Bool)} {B : Nat} {M : Nat → Prop} {σ : List As}
theorem l_lit3 {Q : Post} {t e : TypeId} {x : Operand} {y0 y1 y2 z0 z1 z2 : Value} {bytes : Nat} (hw : St w0 B M σ w) (hg : wantE ops ρ g = true) (hN : Nat.blt d N = true) (hT : P.underlying t = some (.slice e)) (hi : (P.info? e).map (fun i => (i.zero, i.size, i.bytes)) = some (some (.agg #[z0, z1, z2]), 3, bytes))
  (hz : (Value.agg #[z0, z1, z2]).cells = #[z0, z1, z2]) (hx : evalE ρ x = some (.agg #[y0, y1, y2])) (hc : (Value.agg #[y0, y1, y2]).cells = #[y0, y1, y2])
  (n : ∀ b w', St w0 B M (As.blk b e [y0, y1, y2] :: σ) w' → RunL P N ops ⟨false, Q⟩ rest ((d, .slice (some ⟨b, 0, none⟩) 1 1) :: ρ) w') : RunL P N ops ⟨false, Q⟩ (⟨some d, .buildSlice t 1 #[(0, x)], ty, pos, af, g⟩ :: rest) ρ w := by
 obtain ⟨i, hi, h2, h3, h4⟩ := info_parts hi
 refine l_valw (fun h => by cases h) hg rfl hN (fun a ha => ?_) (n w.heap.size (w.alloc (.cells #[y0, y1, y2] e)) (hw.new _ _ (heap_alloc_new w _) fun k hk => hk))
 have hr : (Instr.buildSlice t 1 #[(0, .agg #[y0, y1, y2])]).run P w = .ok (.slice (some ⟨w.heap.size, 0, none⟩) 1 1) (w.alloc (.cells #[y0, y1, y2] e)) := by
  simp [Instr.buildSlice, run_underlying hT, sizeOf, typeInfo, hi, h2, h3, zeroValue, hz, Instr.fill, hc, newRow, Array.range, List.range]
  generalize i.size = m at h3 ⊢
  subst h3
  refine congrArg (fun z => w.alloc (Obj.cells z e)) (Array.ext (by simp) fun i h1 h2 => ?_)
  have : i = 0 ∨ i = 1 ∨ i = 2 := by simp at h2; omega
  rcases this with rfl | rfl | rfl <;> simp
 simp only [execOp]
 simp [ha.eval hx, hr]
end
abbrev addW (b : Nat) (X : Gm) (L : List (List Value)) : List As := [As.blk b 66 (gC X), As.rk 73 3 X.vh L]
theorem AddD (b c : Nat) (X : Gm) (L : List (List Value)) (hL : L.length ≤ 16) (row : List Value) (hr : row.length = 3) (hr1 : ∀ u ∈ row, u.oneCell' = true) (w : World) (hS : Sep w.heap.size (fps (addW b X L)) w (addW b X L)) (hc : ∀ w1 : World, (∀ k, k < w.heap.size → ¬ fps (addW b X L) k → w1.heap[k]? = w.heap[k]?) → (As.blk c 73 row).ok w1) :
  CallsV P 30 [ptr b, .slice (some ⟨c, 0, none⟩) 1 1] w fun r w' => ∃ v, r = .tuple #[] ∧ Trans w w' (addW b X L) (addW b { X with vh := v } (L ++ [row])) := by
 refine enterW Try.func30 rfl Try.ntmps30 rfl ?_
 have hw0 : St w w.heap.size (fps (addW b X L)) (addW b X L) w := St.startS hS
 refine c_region (l_move rfl rfl rfl (l_move rfl rfl rfl (l_nilCheck rfl rfl rfl (l_field fo59_0 rfl rfl rfl ?_))))
 refine l_load_blk hw0 mem0 rfl rfl Try.underlying57 rfl rfl rfl ?_
 refine l_move rfl rfl rfl ?_
 have hw1 := St.frontL (l := [_]) hw0
 simp only [List.cons_append, List.nil_append] at hw1
 try clear hw0
 refine k_append1 (r := row) hw1 rfl rfl Try.underlying57 ti73 rfl rfl rfl hr (blk_sl (hc _ fun k hk hf => hw1.ext.block k hk hf)) hr1 (by omega) (by omega) (fun v0_6 w2 hw2 => ?_)
 refine l_nilCheck rfl rfl rfl (l_field fo59_0 rfl rfl rfl ?_)
 refine l_store_blk hw2 (.tail .head) .zero rfl tz57 rfl rfl (own_one (hw2.ok mem0)) (fun w3 hw3 => ?_)
 refine l_nil ?_
 try dsimp only
 refine e_done0 Try.results30 ?_
 refine ⟨_, rfl, ?_⟩
 have hw4 := St.front1 hw3
 try clear hw3
 exact ⟨v0_6, rfl, hw4.transS⟩
abbrev nilV : Value := .slice none 0 0
def newH (l : List Int) : Hd := ⟨l, if l.length = 0 then 4 else 1, 0, -1⟩
def newG (ls : List (List Int)) : GW := ⟨ls.map newH, List.replicate 41 ⟨0, 0, false⟩, 0⟩
def okR (l : List Int) : Prop := l.length ≤ 64 ∧ ∀ q ∈ l, -342 ≤ q ∧ q ≤ 308
def okA (ls : List (List Int)) : Prop := ls.length ≤ 16 ∧ ∀ l ∈ ls, okR l
def X0 (vr : Value) : Gm := ⟨nilV, vr, 0, [], List.replicate 41 ⟨⟨0, 0, false⟩, nilV⟩⟩
abbrev addX (X : Gm) (v : Value) (m : Hm) : Gm := { X with vh := v, hs := X.hs ++ [m] }
theorem rest_snoc {b : Nat} {X : Gm} {v : Value} {m : Hm} : (hrow b X.hs.length m ++ restG b X).Perm (restG b (addX X v m)) := by
 unfold restG
 show List.Perm _ (((X.hs ++ [m]).mapIdx (hrow b)).flatten ++ X.sg.mapIdx srow)
 rw [List.mapIdx_append, List.flatten_append]
 simp only [List.mapIdx_cons, List.mapIdx_nil, List.flatten_cons, List.flatten_nil, List.append_nil, Nat.zero_add]
 rw [← List.append_assoc]
 exact (List.perm_append_comm).append_right _
abbrev nwR (b : Nat) (X : Gm) (n : Nat) : List As := [As.blk b 66 (gC X), As.rk 73 3 X.vh (X.hs.map handV), As.ro 34 X.vr (List.replicate n nilV), As.sep (restG b X)]
structure NwOk (ls : List (List Int)) (i : Nat) (X : Gm) : Prop where
 hs : X.hs.map (·.h) = (ls.take i).map newH
 vd : X.hs.map (·.vd) = List.replicate i nilV
 sg : X.sg = List.replicate 41 ⟨⟨0, 0, false⟩, nilV⟩
 fr : X.fr = 0
 len : X.hs.length = i
theorem NwOk.abs {ls : List (List Int)} {X : Gm} (h : NwOk ls ls.length X) : X.abs = newG ls := by
 unfold Gm.abs newG
 rw [h.hs, h.sg, h.fr, List.take_length, List.map_replicate]
theorem NwOk.snoc {ls : List (List Int)} {i : Nat} {X : Gm} {l : List Int} {v : Value} {bw bg bi bs bp wb : Nat} {vn vp : Value} (h : NwOk ls i X) (hl : ls[i]? = some l) : NwOk ls (i + 1) (addX X v (newM l bw bg bi bs bp wb vn vp)) := by
 refine ⟨?_, ?_, h.sg, h.fr, by simp [h.len]⟩
 ·show (X.hs ++ [_]).map _ = _
  rw [List.map_append, h.hs, List.take_add_one, hl, List.map_append]
  rfl
 ·show (X.hs ++ [_]).map _ = _
  rw [List.map_append, h.vd, List.replicate_succ']
  rfl
theorem where_ok {q : Int} : (whereS q).2.2 = 0 ↔ (-342 ≤ q ∧ q ≤ 308) := by
 unfold whereS
 split <;> simp <;> omega
theorem segs_set {l : List Int} {k : Nat} (hk : k < l.length) : (segsA (l.take k) ++ List.replicate (l.length - k) 0).set k (whereS (l.getD k 0)).1 = segsA (l.take (k + 1)) ++ List.replicate (l.length - (k + 1)) 0 := by
 have e : (segsA (l.take k)).length = k := by simp [segsA]; omega
 rw [List.set_append_right _ _ (by omega), e, Nat.sub_self, show l.length - k = (l.length - (k + 1)) + 1 by omega, List.replicate_succ, List.set_cons_zero, List.take_add_one, List.getElem?_eq_getElem hk]
 simp only [segsA, List.map_append, List.map_cons, List.map_nil, List.append_assoc, List.cons_append, List.nil_append, Option.toList_some, List.getD_eq_getElem?_getD, List.getElem?_eq_getElem hk, Option.getD_some]
theorem plcs_set {l : List Int} {k : Nat} (hk : k < l.length) : (plcsA (l.take k) ++ List.replicate (l.length - k) 0).set k (whereS (l.getD k 0)).2.1 = plcsA (l.take (k + 1)) ++ List.replicate (l.length - (k + 1)) 0 := by
 have e : (plcsA (l.take k)).length = k := by simp [plcsA]; omega
 rw [List.set_append_right _ _ (by omega), e, Nat.sub_self, show l.length - k = (l.length - (k + 1)) + 1 by omega, List.replicate_succ, List.set_cons_zero, List.take_add_one, List.getElem?_eq_getElem hk]
 simp only [plcsA, List.map_append, List.map_cons, List.map_nil, List.append_assoc, List.cons_append, List.nil_append, Option.toList_some, List.getD_eq_getElem?_getD, List.getElem?_eq_getElem hk, Option.getD_some]
theorem nil_rows {w0 w : World} {B : Nat} {M : Nat → Prop} {σ : List As} : ∀ (l : List As), (∀ A ∈ l, ∃ E k, A = As.rk E k nilV []) → St w0 B M σ w → St w0 B M (As.sep l :: σ) w
 | [], _, h => sep_nil h
 | A :: l, hl, h => by
  obtain ⟨E, k, rfl⟩ := hl A (.head _)
  have h2 := St.nilk (nil_rows l (fun X hX => hl X (.tail _ hX)) h) E k
  exact ⟨h2.ext, h2.base, sep_in h2.sep⟩
theorem rest0 {vr : Value} {b : Nat} : ∀ A ∈ restG b (X0 vr), ∃ E k, A = As.rk E k nilV [] := fun A hA => by
 have hA : A ∈ ([] : List As) ++ (List.replicate 41 (⟨⟨0, 0, false⟩, nilV⟩ : Sm)).mapIdx srow := hA
 rw [List.nil_append] at hA
 obtain ⟨s, hs, rfl⟩ := List.mem_iff_getElem.1 hA
 refine ⟨77, 2, ?_⟩
 simp only [List.getElem_mapIdx, List.getElem_replicate]
 rfl
theorem own_oneG {w : World} {E : TypeId} {k n : Nat} {v : Value} {cs : List Value} (h : (As.own E k v n cs).ok w) : v.oneCell' = true := by
 have h : Go.Vc.Own w E k v n cs := h
 rcases h.2 with ⟨rfl, _⟩ | ⟨g, off, cap, cur, rfl, _⟩ <;> rfl
theorem ri_rep {E : TypeId} {k : IntKind} {v : Value} {n : Nat} {x : Int} : As.ri E k v (List.replicate n x) = As.ro E v (List.replicate n (.int k x)) := by
 unfold As.ri ints
 rw [List.map_replicate]
theorem NwOk.gw {ls : List (List Int)} {X : Gm} {b : Nat} (h : NwOk ls ls.length X) : nwR b X ls.length = gW b X := by
 unfold nwR
 rw [← h.vd]
theorem NewG (v : Value) (vs : List Value) (ls : List (List Int)) (hvl : vs.length = ls.length) (hvb : vs.length ≤ 1099511627776) (hrg : ∀ l ∈ ls, Rg (-9223372036854775808) 9223372036854775807 l ∧ l.length ≤ 1099511627776) (w : World) (hv : IV w v vs) (hvs : ∀ (j : Nat) (x : Value) (l : List Int), vs[j]? = some x → ls[j]? = some l → IV w x (ints .i64 l)) :
  CallsV P 9 [v] w fun r w' => ∃ rv e, r = .tuple #[rv, .int .i64 e] ∧ ((¬ okA ls ∧ rv = .pointer none ∧ e = 280 ∧ Grow w w' []) ∨ (okA ls ∧ e = 0 ∧ ∃ (b : Nat) (X : Gm), rv = ptr b ∧ X.abs = newG ls ∧ Grow w w' (gW b X))) := by
 refine enterW Try.func9 rfl Try.ntmps9 rfl ?_
 have hw0 := St.start w
 refine c_seq (c_region (l_assign rfl rfl rfl (l_assign rfl rfl rfl (l_nil (e_then ?_)))))
 refine c_keep [0] (.cons rfl .nil) ?_
 refine c_seq (c_seq (c_region (l_move rfl rfl rfl ?_)))
 refine v_len rfl rfl Try.underlying22 rfl (by first | exact hw0.iarg hv | assumption) ?_
 refine l_gtr rfl rfl rfl rfl ?_
 refine l_nil (e_then ?_)
 refine c_keep [0, 14] (.cons rfl (.cons rfl .nil)) ?_
 first | refine c_cond rfl (fun hc0 => ?_) (fun hc0 => ?_) | refine c_condb rfl (fun hc0 => ?_) (fun hc0 => ?_)
 ·skip
  refine c_seq (c_region (l_assign rfl rfl rfl (l_assign rfl rfl rfl (l_nil (e_then ?_)))))
  refine c_keep [2, 3] (.cons rfl (.cons rfl .nil)) ?_
  refine c_ret ?_
  refine e_then_ret ?_
  refine e_done2 Try.results9 rfl rfl ?_
  refine ⟨_, rfl, ?_⟩
  refine ⟨_, _, rfl, .inl ⟨fun h => by have := h.1; omega, rfl, rfl, hw0.grows⟩⟩
 ·skip
  refine c_skip (e_then ?_)
  refine c_keep [0] (.cons rfl .nil) ?_
  refine c_seq (c_region (l_move rfl rfl rfl ?_))
  refine v_len rfl rfl Try.underlying22 rfl (by first | exact hw0.iarg hv | assumption) ?_
  refine v_make (m := vs.length) (c := vs.length) hw0 rfl rfl Try.underlying56 ti34 rfl rfl rfl (by omega) (by omega) (by omega) (by omega) (by omega) (fun v3_2 w1 hw1 => ?_)
  try clear hw0
  have hv32 := own_oneG (hw1.ok mem0)
  refine l_buildS rfl rfl pl66 ta66 (.one rfl rfl (by first | rfl | assumption) (.succ (.succ (.succ (.succ (.succ (.succ (.succ (.succ (.succ (.succ (.succ (.succ (.succ (.succ (.succ (.succ (.succ (.succ (.succ (.succ (.succ (.succ (.succ (.succ (.succ (.succ (.succ (.succ (.succ (.succ (.succ (.succ (.succ (.succ (.succ (.succ (.succ (.succ (.succ (.succ (.succ (.succ (.succ (.succ (.succ (.succ (.succ (.succ (.succ (.succ (.succ (.succ (.succ (.succ (.succ (.succ (.succ (.succ (.succ (.succ (.succ (.succ (.succ (.succ (.succ (.succ (.succ (.succ (.succ (.succ (.succ (.succ (.succ (.succ (.succ (.succ (.succ (.succ (.succ (.succ (.succ (.succ (.succ (.succ (.succ (.succ (.succ (.succ (.succ (.succ (.succ (.succ (.succ (.succ (.succ (.succ (.succ (.succ (.succ (.succ (.succ (.succ (.succ (.succ (.succ (.succ (.succ (.succ (.succ (.succ (.succ (.succ (.succ (.succ (.succ (.succ (.succ (.succ (.succ (.succ (.succ (.succ (.succ (.succ (.succ .zero))))))))))))))))))))))))))))))))))))))))))))))))))))))))))))))))))))))))))))))))))))))))))))))))))))))))))))))))))))))))))))) .nil) ?_
  refine l_box hw1 rfl rfl rfl (fun b3_4 w2 hw2 => ?_)
  try clear hw1
  refine l_assign rfl rfl rfl (l_nil (e_then ?_))
  refine c_keep [0, 4] (.cons rfl (.cons rfl .nil)) ?_
  refine c_seq (c_seq (c_region (l_move rfl rfl rfl ?_)))
  refine v_len rfl rfl Try.underlying22 rfl (by first | exact hw2.ibl mem0 | exact hw2.io mem1 | exact hw2.iarg hv | assumption) ?_
  refine l_move rfl rfl rfl (l_nil (e_then ?_))
  refine c_keep [4, 20, 21, 22] (.cons rfl (.cons rfl (.cons rfl (.cons rfl .nil)))) ?_
  refine c_block ?_
  refine c_loopk (ι := Nat × Gm) (fun (z0 : Nat × Gm) => match z0 with | ⟨i, X⟩ => vs.length - i) (fun (z0 : Nat × Gm) (w' : World) => match z0 with | ⟨i, X⟩ => St w w.heap.size None' (nwR b3_4 X vs.length) w' ∧ i ≤ vs.length ∧ NwOk ls i X ∧ ∀ l ∈ ls.take i, okR l) (fun (z0 : Nat × Gm) => match z0 with | ⟨i, X⟩ => [(22, .int .i64 (i : Int))]) [4, 20, 21] (0, X0 v3_2) ?_ (.cons rfl (.cons rfl (.cons rfl .nil))) ?_ ?_
  ·exact ⟨St.perm (List.perm_append_comm (l₁ := [_]) (l₂ := [_, _, _])) (nil_rows _ (rest0 (vr := v3_2) (b := b3_4)) (St.frontL (l := [_]) (St.nilk hw2 73 3))), by omega, ⟨rfl, rfl, rfl, rfl, rfl⟩, by simp⟩
  ·exact (.cons rfl (by first | rfl | (refine congrArg (Value.int _) ?_; omega)) .nil)
  rintro ⟨i, X⟩ w3 ⟨hw3, hi, hN, hok⟩
  show RunC P _ _ _ (_ :: _) _
  refine c_seq (c_region ?_)
  refine l_lss rfl rfl rfl rfl ?_
  refine l_nil (e_then (c_seq ?_))
  first | refine c_cond rfl (fun hc1 => ?_) (fun hc1 => ?_) | refine c_condb rfl (fun hc1 => ?_) (fun hc1 => ?_)
  ·skip
   refine c_skip (e_then ?_)
   refine c_keep [4, 20, 21, 22] (.cons rfl (.cons rfl (.cons rfl (.cons rfl .nil)))) ?_
   refine c_seq (c_block (c_seq (c_region ?_)))
   have hi1 : i < ls.length := by omega
   obtain ⟨x, hvj⟩ : ∃ x, vs[i]? = some x := ⟨_, List.getElem?_eq_getElem (by omega)⟩
   obtain ⟨l, hlj⟩ : ∃ l, ls[i]? = some l := ⟨_, List.getElem?_eq_getElem hi1⟩
   have hx := hvs i x l hvj hlj
   have hlm := List.mem_of_getElem? hlj
   obtain ⟨hRg, hlb⟩ := hrg l hlm
   refine l_move rfl rfl rfl ?_
   refine v_get rfl rfl rfl rfl Try.underlying22 tz23 Try.underlying23 rfl rfl rfl (by first | exact hw3.ibl mem0 | exact hw3.ik (by assumption) mem1 | exact hw3.io mem2 | exact hw3.iarg hv | assumption) (by first | omega | (simp; done) | (simp; omega)) hvj ?_ rfl
   refine l_assign rfl rfl rfl (l_assign rfl rfl rfl (l_nil (e_then ?_)))
   refine c_keep [4, 5, 6, 20, 21, 22] (.cons rfl (.cons rfl (.cons rfl (.cons rfl (.cons rfl (.cons rfl .nil)))))) ?_
   refine c_seq (c_seq (c_region (l_move rfl rfl rfl ?_)))
   refine v_leni rfl rfl Try.underlying23 rfl (hw3.iarg hx) ?_
   refine l_gtr rfl rfl rfl rfl ?_
   refine l_nil (e_then ?_)
   refine c_keep [4, 5, 6, 20, 21, 22, 29] (.cons rfl (.cons rfl (.cons rfl (.cons rfl (.cons rfl (.cons rfl (.cons rfl .nil))))))) ?_
   first | refine c_cond rfl (fun hc2 => ?_) (fun hc2 => ?_) | refine c_condb rfl (fun hc2 => ?_) (fun hc2 => ?_)
   ·skip
    refine c_seq (c_region (l_assign rfl rfl rfl (l_assign rfl rfl rfl (l_nil (e_then ?_)))))
    refine c_keep [2, 3] (.cons rfl (.cons rfl .nil)) ?_
    refine c_ret ?_
    refine e_then_ret ?_
    refine e_blk_ret ?_
    refine e_then_ret ?_
    refine e_then_ret ?_
    refine e_blk_ret ?_
    refine e_then_ret ?_
    refine e_done2 Try.results9 rfl rfl ?_
    refine ⟨_, rfl, ?_⟩
    have hw4 := St.del (.tail (.tail (.tail .head))) hw3
    try clear hw3
    have hw5 := St.del (.tail (.tail .head)) hw4
    try clear hw4
    have hw6 := St.del (.tail .head) hw5
    try clear hw5
    have hw7 := St.del .head hw6
    try clear hw6
    refine ⟨_, _, rfl, .inl ⟨fun h => by have := (h.2 l hlm).1; omega, rfl, rfl, hw7.grows⟩⟩
   ·skip
    refine c_skip (e_then ?_)
    refine c_keep [4, 5, 6, 20, 21, 22] (.cons rfl (.cons rfl (.cons rfl (.cons rfl (.cons rfl (.cons rfl .nil)))))) ?_
    refine c_cutk (ι := Value × Value) (fun (z0 : Value × Value) (w' : World) => match z0 with | ⟨sv, pv⟩ => St w w.heap.size None' ([As.ri 3 .i64 sv (List.replicate l.length 0), As.ri 3 .i64 pv (List.replicate l.length 0)] ++ nwR b3_4 X vs.length) w' ∧ True) (fun (z0 : Value × Value) => match z0 with | ⟨sv, pv⟩ => [(7, sv), (8, pv)]) [4, 5, 6, 20, 21, 22] (.cons rfl (.cons rfl (.cons rfl (.cons rfl (.cons rfl (.cons rfl .nil)))))) ?_ ?_
    ·skip
     have hw8 := hw3.drewn
     try clear hw3
     refine c_any (n := 8) [false, false, false, false, false, false, false, false] (fun wS => True) (by kernel_rfl) rfl rfl ?_
     apply a_take (L' := [true, false, false, false, false, false, false, false]) 0 rfl (by kernel_rfl) (by kernel_rfl) (by kernel_rfl) rfl rfl rfl rfl rfl (trivial)
     ·intro wS sS
      refine l_move rfl rfl rfl (l_nil ?_)
      exact e_got rfl
     apply a_take (L' := [true, false, false, true, false, false, false, false]) 3 rfl (by kernel_rfl) (by kernel_rfl) (by kernel_rfl) rfl rfl rfl rfl rfl (trivial)
     ·intro wS sS
      refine l_move rfl rfl rfl (l_nil ?_)
      exact e_got rfl
     refine a_two (L' := [true, true, false, true, false, false, false, false]) (L'' := [true, false, false, true, true, false, false, false]) 1 4 (by kernel_rfl) rfl rfl rfl rfl ?_ ?_
     ·skip
      refine v_leni rfl rfl Try.underlying23 rfl (hw8.iarg hx) ?_
      refine l_nil ?_
      refine e_any (trivial) ?_
      refine a_two (L' := [true, true, true, true, false, false, false, false]) (L'' := [true, true, false, true, true, false, false, false]) 2 4 (by kernel_rfl) rfl rfl rfl rfl ?_ ?_
      ·skip
       refine v_make (m := l.length) (c := l.length) hw8 rfl rfl Try.underlying23 ti3 rfl rfl rfl (by omega) (by omega) (by omega) (by omega) (by omega) (fun v9_2 w9 hw9 => ?_)
       try clear hw8
       refine l_nil ?_
       refine e_any (trivial) ?_
       apply a_take (L' := [true, true, true, true, false, false, true, false]) 6 rfl (by kernel_rfl) (by kernel_rfl) (by kernel_rfl) rfl rfl rfl rfl rfl (trivial)
       ·intro wS sS
        refine l_assign rfl rfl rfl (l_nil ?_)
        exact e_got rfl
       refine a_one (L' := [true, true, true, true, true, false, true, false]) 4 (by kernel_rfl) rfl rfl ?_
       refine v_leni rfl rfl Try.underlying23 rfl (hw9.iarg hx) ?_
       refine l_nil ?_
       refine e_any (trivial) ?_
       refine a_one (L' := [true, true, true, true, true, true, true, false]) 5 (by kernel_rfl) rfl rfl ?_
       refine v_make (m := l.length) (c := l.length) hw9 rfl rfl Try.underlying23 ti3 rfl rfl rfl (by omega) (by omega) (by omega) (by omega) (by omega) (fun v9_5 w10 hw10 => ?_)
       try clear hw9
       refine l_nil ?_
       refine e_any (trivial) ?_
       apply a_take (L' := [true, true, true, true, true, true, true, true]) 7 rfl (by kernel_rfl) (by kernel_rfl) (by kernel_rfl) rfl rfl rfl rfl rfl (trivial)
       ·intro wS sS
        refine l_assign rfl rfl rfl (l_nil ?_)
        exact e_got rfl
       refine a_done (by kernel_rfl) ?_
       have hw11 := St.frontL (l := [_, _, _, _, _]) hw10
       simp only [List.cons_append, List.nil_append] at hw11
       try clear hw10
       have hw12 := St.frontL (l := [_, _, _, _, _]) hw11
       simp only [List.cons_append, List.nil_append] at hw12
       try clear hw11
       have hw13 := St.frontL (l := [_, _, _, _, _]) hw12
       simp only [List.cons_append, List.nil_append] at hw13
       try clear hw12
       have hw14 := St.frontL (l := [_, _, _, _, _]) hw13
       simp only [List.cons_append, List.nil_append] at hw14
       try clear hw13
       have hw15 := St.frontL (l := [_, _, _, _]) hw14
       simp only [List.cons_append, List.nil_append] at hw15
       try clear hw14
       have hw16 := St.frontL (l := [_, _, _, _, _]) hw15
       simp only [List.cons_append, List.nil_append] at hw16
       try clear hw15
       refine e_meetk (v9_2, v9_5) ?_ (.cons rfl (.cons rfl (.cons rfl (.cons rfl (.cons rfl (.cons rfl .nil)))))) ?_
       ·exact ⟨hw16.cast (by rw [ri_rep, ri_rep]; rfl), trivial⟩
       ·exact (.cons rfl (by first | rfl | (refine congrArg (Value.int _) ?_; omega)) (.cons rfl (by first | rfl | (refine congrArg (Value.int _) ?_; omega)) .nil))
      ·skip
       refine v_leni rfl rfl Try.underlying23 rfl (hw8.iarg hx) ?_
       refine l_nil ?_
       refine e_any (trivial) ?_
       refine a_two (L' := [true, true, true, true, true, false, false, false]) (L'' := [true, true, false, true, true, true, false, false]) 2 5 (by kernel_rfl) rfl rfl rfl rfl ?_ ?_
       ·skip
        refine v_make (m := l.length) (c := l.length) hw8 rfl rfl Try.underlying23 ti3 rfl rfl rfl (by omega) (by omega) (by omega) (by omega) (by omega) (fun v9_2 w17 hw17 => ?_)
        try clear hw8
        refine l_nil ?_
        refine e_any (trivial) ?_
        apply a_take (L' := [true, true, true, true, true, false, true, false]) 6 rfl (by kernel_rfl) (by kernel_rfl) (by kernel_rfl) rfl rfl rfl rfl rfl (trivial)
        ·intro wS sS
         refine l_assign rfl rfl rfl (l_nil ?_)
         exact e_got rfl
        refine a_one (L' := [true, true, true, true, true, true, true, false]) 5 (by kernel_rfl) rfl rfl ?_
        refine v_make (m := l.length) (c := l.length) hw17 rfl rfl Try.underlying23 ti3 rfl rfl rfl (by omega) (by omega) (by omega) (by omega) (by omega) (fun v9_5 w18 hw18 => ?_)
        try clear hw17
        refine l_nil ?_
        refine e_any (trivial) ?_
        apply a_take (L' := [true, true, true, true, true, true, true, true]) 7 rfl (by kernel_rfl) (by kernel_rfl) (by kernel_rfl) rfl rfl rfl rfl rfl (trivial)
        ·intro wS sS
         refine l_assign rfl rfl rfl (l_nil ?_)
         exact e_got rfl
        refine a_done (by kernel_rfl) ?_
        have hw19 := St.frontL (l := [_, _, _, _, _]) hw18
        simp only [List.cons_append, List.nil_append] at hw19
        try clear hw18
        have hw20 := St.frontL (l := [_, _, _, _, _]) hw19
        simp only [List.cons_append, List.nil_append] at hw20
        try clear hw19
        have hw21 := St.frontL (l := [_, _, _, _, _]) hw20
        simp only [List.cons_append, List.nil_append] at hw21
        try clear hw20
        have hw22 := St.frontL (l := [_, _, _, _, _]) hw21
        simp only [List.cons_append, List.nil_append] at hw22
        try clear hw21
        have hw23 := St.frontL (l := [_, _, _, _]) hw22
        simp only [List.cons_append, List.nil_append] at hw23
        try clear hw22
        have hw24 := St.frontL (l := [_, _, _, _, _]) hw23
        simp only [List.cons_append, List.nil_append] at hw24
        try clear hw23
        refine e_meetk (v9_2, v9_5) ?_ (.cons rfl (.cons rfl (.cons rfl (.cons rfl (.cons rfl (.cons rfl .nil)))))) ?_
        ·exact ⟨hw24.cast (by rw [ri_rep, ri_rep]; rfl), trivial⟩
        ·exact (.cons rfl (by first | rfl | (refine congrArg (Value.int _) ?_; omega)) (.cons rfl (by first | rfl | (refine congrArg (Value.int _) ?_; omega)) .nil))
       ·skip
        refine v_make (m := l.length) (c := l.length) hw8 rfl rfl Try.underlying23 ti3 rfl rfl rfl (by omega) (by omega) (by omega) (by omega) (by omega) (fun v9_5 w25 hw25 => ?_)
        try clear hw8
        refine l_nil ?_
        refine e_any (trivial) ?_
        refine a_one (L' := [true, true, true, true, true, true, false, false]) 2 (by kernel_rfl) rfl rfl ?_
        refine v_make (m := l.length) (c := l.length) hw25 rfl rfl Try.underlying23 ti3 rfl rfl rfl (by omega) (by omega) (by omega) (by omega) (by omega) (fun v9_2 w26 hw26 => ?_)
        try clear hw25
        refine l_nil ?_
        refine e_any (trivial) ?_
        apply a_take (L' := [true, true, true, true, true, true, true, false]) 6 rfl (by kernel_rfl) (by kernel_rfl) (by kernel_rfl) rfl rfl rfl rfl rfl (trivial)
        ·intro wS sS
         refine l_assign rfl rfl rfl (l_nil ?_)
         exact e_got rfl
        apply a_take (L' := [true, true, true, true, true, true, true, true]) 7 rfl (by kernel_rfl) (by kernel_rfl) (by kernel_rfl) rfl rfl rfl rfl rfl (trivial)
        ·intro wS sS
         refine l_assign rfl rfl rfl (l_nil ?_)
         exact e_got rfl
        refine a_done (by kernel_rfl) ?_
        have hw27 := St.frontL (l := [_, _, _, _, _]) hw26
        simp only [List.cons_append, List.nil_append] at hw27
        try clear hw26
        have hw28 := St.frontL (l := [_, _, _, _, _]) hw27
        simp only [List.cons_append, List.nil_append] at hw28
        try clear hw27
        have hw29 := St.frontL (l := [_, _, _, _, _]) hw28
        simp only [List.cons_append, List.nil_append] at hw29
        try clear hw28
        have hw30 := St.frontL (l := [_, _, _, _, _]) hw29
        simp only [List.cons_append, List.nil_append] at hw30
        try clear hw29
        have hw31 := St.frontL (l := [_, _, _, _, _]) hw30
        simp only [List.cons_append, List.nil_append] at hw31
        try clear hw30
        have hw32 := St.frontL (l := [_, _, _, _, _]) hw31
        simp only [List.cons_append, List.nil_append] at hw32
        try clear hw31
        refine e_meetk (v9_2, v9_5) ?_ (.cons rfl (.cons rfl (.cons rfl (.cons rfl (.cons rfl (.cons rfl .nil)))))) ?_
        ·exact ⟨hw32.cast (by rw [ri_rep, ri_rep]; rfl), trivial⟩
        ·exact (.cons rfl (by first | rfl | (refine congrArg (Value.int _) ?_; omega)) (.cons rfl (by first | rfl | (refine congrArg (Value.int _) ?_; omega)) .nil))
     ·skip
      refine v_leni rfl rfl Try.underlying23 rfl (hw8.iarg hx) ?_
      refine l_nil ?_
      refine e_any (trivial) ?_
      refine a_two (L' := [true, true, false, true, true, false, false, false]) (L'' := [true, false, false, true, true, true, false, false]) 1 5 (by kernel_rfl) rfl rfl rfl rfl ?_ ?_
      ·skip
       refine v_leni rfl rfl Try.underlying23 rfl (hw8.iarg hx) ?_
       refine l_nil ?_
       refine e_any (trivial) ?_
       refine a_two (L' := [true, true, true, true, true, false, false, false]) (L'' := [true, true, false, true, true, true, false, false]) 2 5 (by kernel_rfl) rfl rfl rfl rfl ?_ ?_
       ·skip
        refine v_make (m := l.length) (c := l.length) hw8 rfl rfl Try.underlying23 ti3 rfl rfl rfl (by omega) (by omega) (by omega) (by omega) (by omega) (fun v9_2 w33 hw33 => ?_)
        try clear hw8
        refine l_nil ?_
        refine e_any (trivial) ?_
        apply a_take (L' := [true, true, true, true, true, false, true, false]) 6 rfl (by kernel_rfl) (by kernel_rfl) (by kernel_rfl) rfl rfl rfl rfl rfl (trivial)
        ·intro wS sS
         refine l_assign rfl rfl rfl (l_nil ?_)
         exact e_got rfl
        refine a_one (L' := [true, true, true, true, true, true, true, false]) 5 (by kernel_rfl) rfl rfl ?_
        refine v_make (m := l.length) (c := l.length) hw33 rfl rfl Try.underlying23 ti3 rfl rfl rfl (by omega) (by omega) (by omega) (by omega) (by omega) (fun v9_5 w34 hw34 => ?_)
        try clear hw33
        refine l_nil ?_
        refine e_any (trivial) ?_
        apply a_take (L' := [true, true, true, true, true, true, true, true]) 7 rfl (by kernel_rfl) (by kernel_rfl) (by kernel_rfl) rfl rfl rfl rfl rfl (trivial)
        ·intro wS sS
         refine l_assign rfl rfl rfl (l_nil ?_)
         exact e_got rfl
        refine a_done (by kernel_rfl) ?_
        have hw35 := St.frontL (l := [_, _, _, _, _]) hw34
        simp only [List.cons_append, List.nil_append] at hw35
        try clear hw34
        have hw36 := St.frontL (l := [_, _, _, _, _]) hw35
        simp only [List.cons_append, List.nil_append] at hw36
        try clear hw35
        have hw37 := St.frontL (l := [_, _, _, _, _]) hw36
        simp only [List.cons_append, List.nil_append] at hw37
        try clear hw36
        have hw38 := St.frontL (l := [_, _, _, _, _]) hw37
        simp only [List.cons_append, List.nil_append] at hw38
        try clear hw37
        have hw39 := St.frontL (l := [_, _, _, _]) hw38
        simp only [List.cons_append, List.nil_append] at hw39
        try clear hw38
        have hw40 := St.frontL (l := [_, _, _, _, _]) hw39
        simp only [List.cons_append, List.nil_append] at hw40
        try clear hw39
        refine e_meetk (v9_2, v9_5) ?_ (.cons rfl (.cons rfl (.cons rfl (.cons rfl (.cons rfl (.cons rfl .nil)))))) ?_
        ·exact ⟨hw40.cast (by rw [ri_rep, ri_rep]; rfl), trivial⟩
        ·exact (.cons rfl (by first | rfl | (refine congrArg (Value.int _) ?_; omega)) (.cons rfl (by first | rfl | (refine congrArg (Value.int _) ?_; omega)) .nil))
       ·skip
        refine v_make (m := l.length) (c := l.length) hw8 rfl rfl Try.underlying23 ti3 rfl rfl rfl (by omega) (by omega) (by omega) (by omega) (by omega) (fun v9_5 w41 hw41 => ?_)
        try clear hw8
        refine l_nil ?_
        refine e_any (trivial) ?_
        refine a_one (L' := [true, true, true, true, true, true, false, false]) 2 (by kernel_rfl) rfl rfl ?_
        refine v_make (m := l.length) (c := l.length) hw41 rfl rfl Try.underlying23 ti3 rfl rfl rfl (by omega) (by omega) (by omega) (by omega) (by omega) (fun v9_2 w42 hw42 => ?_)
        try clear hw41
        refine l_nil ?_
        refine e_any (trivial) ?_
        apply a_take (L' := [true, true, true, true, true, true, true, false]) 6 rfl (by kernel_rfl) (by kernel_rfl) (by kernel_rfl) rfl rfl rfl rfl rfl (trivial)
        ·intro wS sS
         refine l_assign rfl rfl rfl (l_nil ?_)
         exact e_got rfl
        apply a_take (L' := [true, true, true, true, true, true, true, true]) 7 rfl (by kernel_rfl) (by kernel_rfl) (by kernel_rfl) rfl rfl rfl rfl rfl (trivial)
        ·intro wS sS
         refine l_assign rfl rfl rfl (l_nil ?_)
         exact e_got rfl
        refine a_done (by kernel_rfl) ?_
        have hw43 := St.frontL (l := [_, _, _, _, _]) hw42
        simp only [List.cons_append, List.nil_append] at hw43
        try clear hw42
        have hw44 := St.frontL (l := [_, _, _, _, _]) hw43
        simp only [List.cons_append, List.nil_append] at hw44
        try clear hw43
        have hw45 := St.frontL (l := [_, _, _, _, _]) hw44
        simp only [List.cons_append, List.nil_append] at hw45
        try clear hw44
        have hw46 := St.frontL (l := [_, _, _, _, _]) hw45
        simp only [List.cons_append, List.nil_append] at hw46
        try clear hw45
        have hw47 := St.frontL (l := [_, _, _, _, _]) hw46
        simp only [List.cons_append, List.nil_append] at hw47
        try clear hw46
        have hw48 := St.frontL (l := [_, _, _, _, _]) hw47
        simp only [List.cons_append, List.nil_append] at hw48
        try clear hw47
        refine e_meetk (v9_2, v9_5) ?_ (.cons rfl (.cons rfl (.cons rfl (.cons rfl (.cons rfl (.cons rfl .nil)))))) ?_
        ·exact ⟨hw48.cast (by rw [ri_rep, ri_rep]; rfl), trivial⟩
        ·exact (.cons rfl (by first | rfl | (refine congrArg (Value.int _) ?_; omega)) (.cons rfl (by first | rfl | (refine congrArg (Value.int _) ?_; omega)) .nil))
      ·skip
       refine v_make (m := l.length) (c := l.length) hw8 rfl rfl Try.underlying23 ti3 rfl rfl rfl (by omega) (by omega) (by omega) (by omega) (by omega) (fun v9_5 w49 hw49 => ?_)
       try clear hw8
       refine l_nil ?_
       refine e_any (trivial) ?_
       refine a_one (L' := [true, true, false, true, true, true, false, false]) 1 (by kernel_rfl) rfl rfl ?_
       refine v_leni rfl rfl Try.underlying23 rfl (hw49.iarg hx) ?_
       refine l_nil ?_
       refine e_any (trivial) ?_
       refine a_one (L' := [true, true, true, true, true, true, false, false]) 2 (by kernel_rfl) rfl rfl ?_
       refine v_make (m := l.length) (c := l.length) hw49 rfl rfl Try.underlying23 ti3 rfl rfl rfl (by omega) (by omega) (by omega) (by omega) (by omega) (fun v9_2 w50 hw50 => ?_)
       try clear hw49
       refine l_nil ?_
       refine e_any (trivial) ?_
       apply a_take (L' := [true, true, true, true, true, true, true, false]) 6 rfl (by kernel_rfl) (by kernel_rfl) (by kernel_rfl) rfl rfl rfl rfl rfl (trivial)
       ·intro wS sS
        refine l_assign rfl rfl rfl (l_nil ?_)
        exact e_got rfl
       apply a_take (L' := [true, true, true, true, true, true, true, true]) 7 rfl (by kernel_rfl) (by kernel_rfl) (by kernel_rfl) rfl rfl rfl rfl rfl (trivial)
       ·intro wS sS
        refine l_assign rfl rfl rfl (l_nil ?_)
        exact e_got rfl
       refine a_done (by kernel_rfl) ?_
       have hw51 := St.frontL (l := [_, _, _, _, _]) hw50
       simp only [List.cons_append, List.nil_append] at hw51
       try clear hw50
       have hw52 := St.frontL (l := [_, _, _, _, _]) hw51
       simp only [List.cons_append, List.nil_append] at hw52
       try clear hw51
       have hw53 := St.frontL (l := [_, _, _, _, _]) hw52
       simp only [List.cons_append, List.nil_append] at hw53
       try clear hw52
       have hw54 := St.frontL (l := [_, _, _, _, _]) hw53
       simp only [List.cons_append, List.nil_append] at hw54
       try clear hw53
       have hw55 := St.frontL (l := [_, _, _, _, _]) hw54
       simp only [List.cons_append, List.nil_append] at hw55
       try clear hw54
       have hw56 := St.frontL (l := [_, _, _, _, _]) hw55
       simp only [List.cons_append, List.nil_append] at hw56
       try clear hw55
       refine e_meetk (v9_2, v9_5) ?_ (.cons rfl (.cons rfl (.cons rfl (.cons rfl (.cons rfl (.cons rfl .nil)))))) ?_
       ·exact ⟨hw56.cast (by rw [ri_rep, ri_rep]; rfl), trivial⟩
       ·exact (.cons rfl (by first | rfl | (refine congrArg (Value.int _) ?_; omega)) (.cons rfl (by first | rfl | (refine congrArg (Value.int _) ?_; omega)) .nil))
    rintro ⟨sv, pv⟩ w57 ⟨hw57, _⟩
    show RunC P _ _ _ (_ :: _) _
    refine c_seq (c_seq (c_region (l_move rfl rfl rfl ?_)))
    refine v_leni rfl rfl Try.underlying23 rfl (hw57.iarg hx) ?_
    refine l_move rfl rfl rfl (l_nil (e_then ?_))
    refine c_keep [4, 5, 7, 8, 20, 21, 22, 36, 37, 38] (.cons rfl (.cons rfl (.cons rfl (.cons rfl (.cons rfl (.cons rfl (.cons rfl (.cons rfl (.cons rfl (.cons rfl .nil)))))))))) ?_
    refine c_block ?_
    refine c_loopk (ι := Nat) (fun (k : Nat) => l.length - k) (fun (k : Nat) (w' : World) => St w w.heap.size None' ([As.ri 3 .i64 sv (segsA (l.take k) ++ List.replicate (l.length - k) 0), As.ri 3 .i64 pv (plcsA (l.take k) ++ List.replicate (l.length - k) 0)] ++ nwR b3_4 X vs.length) w' ∧ k ≤ l.length ∧ ∀ q ∈ l.take k, -342 ≤ q ∧ q ≤ 308) (fun (k : Nat) => [(38, .int .i64 (k : Int))]) [4, 5, 7, 8, 20, 21, 22, 36, 37] (0) ?_ (.cons rfl (.cons rfl (.cons rfl (.cons rfl (.cons rfl (.cons rfl (.cons rfl (.cons rfl (.cons rfl .nil))))))))) ?_ ?_
    ·exact ⟨hw57, by omega, by simp⟩
    ·exact (.cons rfl (by first | rfl | (refine congrArg (Value.int _) ?_; omega)) .nil)
    rintro k w58 ⟨hw58, hk, hqs⟩
    show RunC P _ _ _ (_ :: _) _
    refine c_seq (c_region ?_)
    refine l_lss rfl rfl rfl rfl ?_
    refine l_nil (e_then (c_seq ?_))
    first | refine c_cond rfl (fun hc3 => ?_) (fun hc3 => ?_) | refine c_condb rfl (fun hc3 => ?_) (fun hc3 => ?_)
    ·skip
     refine c_skip (e_then ?_)
     refine c_keep [4, 5, 7, 8, 20, 21, 22, 36, 37, 38] (.cons rfl (.cons rfl (.cons rfl (.cons rfl (.cons rfl (.cons rfl (.cons rfl (.cons rfl (.cons rfl (.cons rfl .nil)))))))))) ?_
     refine c_seq (c_block (c_seq (c_region (l_move rfl rfl rfl ?_))))
     refine v_getr (j := k) rfl rfl rfl rfl Try.underlying23 tz3 Try.underlying3 rfl rfl (hw58.iarg hx) hRg rfl rfl (by first | omega | (simp; done) | (simp; omega)) (fun hb12 => ?_)
     refine l_assign rfl rfl rfl (l_assign rfl rfl rfl (l_nil (e_then ?_)))
     refine c_keep [4, 5, 7, 8, 9, 10, 20, 21, 22, 36, 37, 38] (.cons rfl (.cons rfl (.cons rfl (.cons rfl (.cons rfl (.cons rfl (.cons rfl (.cons rfl (.cons rfl (.cons rfl (.cons rfl (.cons rfl .nil)))))))))))) ?_
     refine c_seq (c_region (l_assign rfl rfl rfl (l_nil (e_then ?_))))
     refine c_keep [4, 5, 7, 8, 9, 10, 20, 21, 22, 36, 37, 38] (.cons rfl (.cons rfl (.cons rfl (.cons rfl (.cons rfl (.cons rfl (.cons rfl (.cons rfl (.cons rfl (.cons rfl (.cons rfl (.cons rfl .nil)))))))))))) ?_
     refine c_seq (c_region ?_)
     have hq0 := hRg.get (j := k) (by omega)
     have hkl : k < l.length := by omega
     have hls1 : (segsA (l.take k) ++ List.replicate (l.length - k) 0).length = l.length := by simp [segsA]; omega
     have hsl0 : (segsA (l.take k)).length = k := by simp [segsA]; omega
     have hpl0 : (plcsA (l.take k)).length = k := by simp [plcsA]; omega
     have hls2 : (plcsA (l.take k) ++ List.replicate (l.length - k) 0).length = l.length := by simp [plcsA]; omega
     refine l_move rfl rfl rfl (l_move rfl rfl rfl (l_move rfl rfl rfl (l_move rfl rfl rfl (l_move rfl rfl rfl ?_))))
     refine l_callp rfl rfl Try.func29 rfl rfl (.cons rfl .nil) (whereP (l.getD k 0) hq0 _) ?_
     refine l_move rfl rfl rfl (l_extract rfl rfl rfl rfl (l_extract rfl rfl rfl rfl (l_extract rfl rfl rfl rfl ?_)))
     refine v_addrn (j := k) rfl rfl Try.underlying23 tz3 rfl rfl (by first | exact hw58.io mem0 | exact hw58.io mem1 | exact hw58.ibl mem2 | exact hw58.ik (by assumption) mem3 | exact hw58.io mem4 | exact hw58.iarg hv | assumption) (by omega) (by first | omega | (simp; done) | (simp; omega)) (fun A14_10 c14_10 hA14_10 => ?_)
     refine v_storei hw58 .head hA14_10 rfl tz3 rfl rfl (by first | omega | (simp; done) | (simp; omega)) (fun w59 hw59 => ?_)
     try clear hw58
     refine v_addrn (j := k) rfl rfl Try.underlying23 tz3 rfl rfl (by first | exact hw59.io mem0 | exact hw59.io mem1 | exact hw59.ibl mem2 | exact hw59.ik (by assumption) mem3 | exact hw59.io mem4 | exact hw59.iarg hv | assumption) (by omega) (by first | omega | (simp; done) | (simp; omega)) (fun A14_12 c14_12 hA14_12 => ?_)
     refine v_storei hw59 (.tail .head) hA14_12 rfl tz3 rfl rfl (by first | omega | (simp; done) | (simp; omega)) (fun w60 hw60 => ?_)
     try clear hw59
     refine l_assign rfl rfl rfl (l_nil (e_then ?_))
     refine c_keep [4, 5, 7, 8, 11, 20, 21, 22, 36, 37, 38] (.cons rfl (.cons rfl (.cons rfl (.cons rfl (.cons rfl (.cons rfl (.cons rfl (.cons rfl (.cons rfl (.cons rfl (.cons rfl .nil))))))))))) ?_
     refine c_seq (c_region (l_move rfl rfl rfl ?_))
     refine l_neq rfl rfl rfl rfl ?_
     refine l_nil (e_then ?_)
     refine c_keep [4, 5, 7, 8, 20, 21, 22, 36, 37, 38, 56] (.cons rfl (.cons rfl (.cons rfl (.cons rfl (.cons rfl (.cons rfl (.cons rfl (.cons rfl (.cons rfl (.cons rfl (.cons rfl .nil))))))))))) ?_
     first | refine c_cond rfl (fun hc4 => ?_) (fun hc4 => ?_) | refine c_condb rfl (fun hc4 => ?_) (fun hc4 => ?_)
     ·skip
      refine c_seq (c_region (l_assign rfl rfl rfl (l_assign rfl rfl rfl (l_nil (e_then ?_)))))
      refine c_keep [2, 3] (.cons rfl (.cons rfl .nil)) ?_
      refine c_ret ?_
      refine e_blk_ret ?_
      refine e_then_ret ?_
      refine e_then_ret ?_
      refine e_blk_ret ?_
      refine e_then_ret ?_
      refine e_blk_ret ?_
      refine e_then_ret ?_
      refine e_then_ret ?_
      refine e_blk_ret ?_
      refine e_then_ret ?_
      refine e_done2 Try.results9 rfl rfl ?_
      refine ⟨_, rfl, ?_⟩
      have hw61 := St.del (.tail (.tail (.tail (.tail (.tail .head))))) hw60
      try clear hw60
      have hw62 := St.del (.tail (.tail (.tail (.tail .head)))) hw61
      try clear hw61
      have hw63 := St.del (.tail (.tail (.tail .head))) hw62
      try clear hw62
      have hw64 := St.del (.tail (.tail .head)) hw63
      try clear hw63
      have hw65 := St.del (.tail .head) hw64
      try clear hw64
      have hw66 := St.del .head hw65
      try clear hw65
      refine ⟨_, _, rfl, .inl ⟨fun h => by have := (h.2 l hlm).2 _ (show l.getD k 0 ∈ l by simp [List.getD, hkl]); rw [← where_ok] at this; exact hc4 this, rfl, rfl, hw66.grows⟩⟩
     ·skip
      refine c_skip ?_
      refine e_blk ?_
      refine e_then ?_
      refine c_keep [4, 5, 7, 8, 20, 21, 22, 36, 37, 38] (.cons rfl (.cons rfl (.cons rfl (.cons rfl (.cons rfl (.cons rfl (.cons rfl (.cons rfl (.cons rfl (.cons rfl .nil)))))))))) ?_
      refine c_region ?_
      refine l_add rfl rfl rfl rfl (w_i64 (by omega)) ?_
      refine l_move rfl rfl rfl (l_nil ?_)
      rw [segs_set hkl, plcs_set hkl] at hw60
      refine e_againk (i := (k)) (k + 1) ?_ ?_ (.cons rfl (.cons rfl (.cons rfl (.cons rfl (.cons rfl (.cons rfl (.cons rfl (.cons rfl (.cons rfl .nil))))))))) ?_
      ·first | omega | (simp; omega)
      ·exact ⟨hw60, by omega, fun q hq => by
        rw [List.take_add_one, List.getElem?_eq_getElem hkl] at hq
        rcases List.mem_append.1 hq with h | h
        ·exact hqs q h
        ·have e : q = l.getD k 0 := by simpa [List.getD, hkl] using h
         rw [e, ← where_ok]
         omega⟩
      ·exact (.cons rfl (by first | rfl | (refine congrArg (Value.int _) ?_; omega)) .nil)
    ·skip
     refine c_exit ?_
     refine e_then_exit ?_
     refine e_then_exit ?_
     refine e_blk_exit ?_
     refine e_then ?_
     refine c_keep [4, 5, 7, 8, 20, 21, 22] (.cons rfl (.cons rfl (.cons rfl (.cons rfl (.cons rfl (.cons rfl (.cons rfl .nil))))))) ?_
     have hw67 := hw58.drewn
     try clear hw58
     have hkn : k = l.length := by omega
     rw [hkn, List.take_length, Nat.sub_self, List.replicate_zero, List.append_nil, List.append_nil] at hw67
     refine c_any (n := 10) [false, false, false, false, false, false, false, false, false, false] (fun wS => True) (by kernel_rfl) rfl rfl ?_
     apply a_take (L' := [true, false, false, false, false, false, false, false, false, false]) 0 rfl (by kernel_rfl) (by kernel_rfl) (by kernel_rfl) rfl rfl rfl rfl rfl (trivial)
     ·intro wS sS
      refine l_move rfl rfl rfl (l_nil ?_)
      exact e_got rfl
     refine a_nil (L' := [true, true, false, false, false, false, false, false, false, false]) 1 rfl (by kernel_rfl) (by kernel_rfl) (by kernel_rfl) rfl rfl rfl (trivial) rfl ?_
     apply a_take (L' := [true, true, true, false, false, false, false, false, false, false]) 2 rfl (by kernel_rfl) (by kernel_rfl) (by kernel_rfl) rfl rfl rfl rfl rfl (trivial)
     ·intro wS sS
      refine l_field fo66_0 rfl rfl rfl (l_nil ?_)
      exact e_got rfl
     apply a_take (L' := [true, true, true, true, false, false, false, false, false, false]) 3 rfl (by kernel_rfl) (by kernel_rfl) (by kernel_rfl) rfl rfl rfl rfl rfl (trivial)
     ·intro wS sS
      refine l_move rfl rfl rfl (l_nil ?_)
      exact e_got rfl
     apply a_take (L' := [true, true, true, true, true, false, false, false, false, false]) 4 rfl (by kernel_rfl) (by kernel_rfl) (by kernel_rfl) rfl rfl rfl rfl rfl (trivial)
     ·intro wS sS
      refine l_move rfl rfl rfl (l_nil ?_)
      exact e_got rfl
     apply a_take (L' := [true, true, true, true, true, true, false, false, false, false]) 5 rfl (by kernel_rfl) (by kernel_rfl) (by kernel_rfl) rfl rfl rfl rfl rfl (trivial)
     ·intro wS sS
      refine l_move rfl rfl rfl (l_nil ?_)
      exact e_got rfl
     apply a_take (L' := [true, true, true, true, true, true, true, false, false, false]) 6 rfl (by kernel_rfl) (by kernel_rfl) (by kernel_rfl) rfl rfl rfl rfl rfl (trivial)
     ·intro wS sS
      refine l_move rfl rfl rfl (l_nil ?_)
      exact e_got rfl
     refine a_one (L' := [true, true, true, true, true, true, true, true, false, false]) 7 (by kernel_rfl) rfl rfl ?_
     refine l_call rfl rfl Try.func31 rfl rfl (.cons rfl (.cons rfl (.cons rfl (.cons rfl .nil)))) (handG b3_4 i sv pv l w58.drew (hw67.io mem0) (own_oneG (hw67.ok mem1))) ?_
     rintro _ w68 ⟨bw, bg, bi, bs, bp, wb, rfl, hG⟩
     have hw68 := hG _ _ _ _ hw67
     try clear hG hw67
     simp only [List.cons_append, List.nil_append] at hw68
     refine l_nil ?_
     refine e_any (trivial) ?_
     refine a_one (L' := [true, true, true, true, true, true, true, true, true, false]) 8 (by kernel_rfl) rfl rfl ?_
     refine l_lit3 hw68 rfl rfl Try.underlying57 ti73 rfl rfl rfl (fun lb w69 hw69 => ?_)
     refine l_nil ?_
     refine e_any (trivial) ?_
     refine a_one (L' := [true, true, true, true, true, true, true, true, true, true]) 9 (by kernel_rfl) rfl rfl ?_
     have hw70 := St.frontL (l := [_, _, _, _, _, _, _, _, _, _]) hw69
     simp only [List.cons_append, List.nil_append] at hw70
     try clear hw69
     have hw71 := St.frontL (l := [_, _, _, _, _, _, _, _, _, _]) hw70
     simp only [List.cons_append, List.nil_append] at hw71
     try clear hw70
     refine l_call rfl rfl Try.func30 rfl rfl (.cons rfl (.cons rfl .nil)) (AddD b3_4 lb X (X.hs.map handV) (by simp [hN.len]; omega) (handV (newM l bw bg bi bs bp wb sv pv)) rfl (by simp [handV, Value.oneCell']) w69 (St.rows (τ := addW b3_4 X (X.hs.map handV)) hw71) (St.restKeeps (τ := addW b3_4 X (X.hs.map handV)) hw71 (.head _))) ?_
     rintro _ w72 ⟨v2, rfl, hX2⟩
     have hw72 := hX2 _ _ _ _ hw71
     simp only [addW, List.cons_append, List.nil_append] at hw72
     try clear hX hw71
     refine l_nil ?_
     refine e_any (trivial) ?_
     refine a_done (by kernel_rfl) ?_
     refine e_blk ?_
     refine e_then ?_
     refine c_keep [4, 20, 21, 22] (.cons rfl (.cons rfl (.cons rfl (.cons rfl .nil)))) ?_
     refine c_region ?_
     have hw73 := St.frontL (l := [_, _]) hw72
     simp only [List.cons_append, List.nil_append] at hw73
     try clear hw72
     have hw74 := St.frontL (l := [_, _, _, _, _, _, _, _, _, _, _, _]) hw73
     simp only [List.cons_append, List.nil_append] at hw74
     try clear hw73
     have hw75 := St.frontL (l := [_, _, _, _, _, _, _, _, _, _, _]) hw74
     simp only [List.cons_append, List.nil_append] at hw75
     try clear hw74
     have hw76 := St.frontL (l := [_, _, _, _, _, _, _, _, _, _, _]) hw75
     simp only [List.cons_append, List.nil_append] at hw76
     try clear hw75
     have hw77 := St.frontL (l := [_, _, _, _, _, _, _, _, _, _, _]) hw76
     simp only [List.cons_append, List.nil_append] at hw77
     try clear hw76
     have hw78 := St.frontL (l := [_, _, _, _, _, _, _, _, _, _, _]) hw77
     simp only [List.cons_append, List.nil_append] at hw78
     try clear hw77
     have hw79 := St.frontL (l := [_, _, _, _, _, _, _, _, _, _, _]) hw78
     simp only [List.cons_append, List.nil_append] at hw79
     try clear hw78
     have hw80 := St.frontL (l := [_, _, _, _, _, _, _, _, _, _, _]) hw79
     simp only [List.cons_append, List.nil_append] at hw80
     try clear hw79
     have hw81 := St.frontL (l := [_, _, _, _, _, _, _, _, _, _, _]) hw80
     simp only [List.cons_append, List.nil_append] at hw81
     try clear hw80
     have hw82 := St.frontL (l := [_, _, _, _, _, _, _, _, _, _, _]) hw81
     simp only [List.cons_append, List.nil_append] at hw82
     try clear hw81
     have hw83 := St.frontL (l := [_, _, _, _, _, _, _, _, _, _, _, _]) hw82
     simp only [List.cons_append, List.nil_append] at hw83
     try clear hw82
     have hw84 := St.frontL (l := [_, _, _, _, _, _, _, _, _, _, _, _]) hw83
     simp only [List.cons_append, List.nil_append] at hw84
     try clear hw83
     have hw85 := St.frontL (l := [_, _, _, _, _, _, _, _, _, _, _, _]) hw84
     simp only [List.cons_append, List.nil_append] at hw85
     try clear hw84
     refine l_add rfl rfl rfl rfl (w_i64 (by omega)) ?_
     refine l_move rfl rfl rfl (l_nil ?_)
     have hw86 := St.del (.tail (.tail (.tail (.tail (.tail (.tail (.tail (.tail (.tail (.tail (.tail (.tail .head)))))))))))) hw85
     try clear hw85
     refine e_againk (i := (i, X)) (i + 1, addX X v2 (newM l bw bg bi bs bp wb sv pv)) ?_ ?_ (.cons rfl (.cons rfl (.cons rfl .nil))) ?_
     ·first | omega | (simp; omega)
     ·refine ⟨?_, by omega, hN.snoc hlj, fun l2 hl2 => ?_⟩
      ·have hnx := hw86
       have hz301 := St.nilk hnx 77 2
       try clear hnx
       have hz302 := St.nilk hz301 77 2
       try clear hz301
       have hz303 := St.frontL (l := [_, _, _, _, _, _, _, _, _, _, _, _, _]) hz302
       simp only [List.cons_append, List.nil_append] at hz303
       try clear hz302
       have hz304 := St.frontL (l := [_, _]) hz303
       simp only [List.cons_append, List.nil_append] at hz304
       try clear hz303
       have hz305 := St.frontL (l := [_, _]) hz304
       simp only [List.cons_append, List.nil_append] at hz305
       try clear hz304
       have hz306 := St.frontL (l := [_, _, _, _, _, _, _, _, _, _, _, _, _]) hz305
       simp only [List.cons_append, List.nil_append] at hz306
       try clear hz305
       have hz307 := St.frontL (l := [_, _, _, _, _, _, _, _, _, _, _, _, _]) hz306
       simp only [List.cons_append, List.nil_append] at hz307
       try clear hz306
       have hz308 := St.frontL (l := [_, _, _, _, _, _, _, _, _, _, _, _, _]) hz307
       simp only [List.cons_append, List.nil_append] at hz308
       try clear hz307
       have hz309 := St.frontL (l := [_, _, _, _, _, _, _, _, _, _, _, _, _]) hz308
       simp only [List.cons_append, List.nil_append] at hz309
       try clear hz308
       have hz310 := St.frontL (l := [_, _, _, _, _, _, _, _, _, _, _, _, _]) hz309
       simp only [List.cons_append, List.nil_append] at hz310
       try clear hz309
       have hz311 := St.frontL (l := [_, _, _, _, _, _, _, _, _, _, _, _, _]) hz310
       simp only [List.cons_append, List.nil_append] at hz311
       try clear hz310
       have hz312 := St.frontL (l := [_, _, _, _, _, _, _, _, _, _, _, _, _]) hz311
       simp only [List.cons_append, List.nil_append] at hz312
       try clear hz311
       have hz313 := St.frontL (l := [_, _, _, _, _, _, _, _, _, _, _, _, _]) hz312
       simp only [List.cons_append, List.nil_append] at hz313
       try clear hz312
       have hpm := rest_snoc (b := b3_4) (X := X) (v := v2) (m := (newM l bw bg bi bs bp wb sv pv))
       rw [hN.len] at hpm
       have hzx := sep_put (l := [_, _, _, _, _, _, _, _, _, _]) (τ' := restG b3_4 X) (τ := restG b3_4 (addX X v2 (newM l bw bg bi bs bp wb sv pv))) hpm hz313
       exact (St.perm (List.perm_append_comm (l₁ := [_]) (l₂ := [_, _, _])) hzx).cast (by show [_, As.rk _ 3 _ (X.hs.map handV ++ [handV _]), _, _] = [_, As.rk _ 3 _ ((X.hs ++ [_]).map handV), _, _]; rw [List.map_append]; rfl)
      ·rw [List.take_add_one, hlj] at hl2
       rcases List.mem_append.1 hl2 with h | h
       ·exact hok l2 h
       ·have e : l2 = l := by simpa using h
        rw [e]
        exact ⟨by omega, fun q hq => hqs q (by rw [List.take_of_length_le (by omega)]; exact hq)⟩
     ·exact (.cons rfl (by first | rfl | (refine congrArg (Value.int _) ?_; omega)) .nil)
  ·skip
   refine c_exit ?_
   refine e_then_exit ?_
   refine e_then_exit ?_
   refine e_blk_exit ?_
   refine e_then ?_
   refine c_keep [4] (.cons rfl .nil) ?_
   refine c_seq (c_region (l_move rfl rfl rfl (l_assign rfl rfl rfl (l_assign rfl rfl rfl (l_nil ?_)))))
   refine e_then ?_
   refine c_keep [2, 3] (.cons rfl (.cons rfl .nil)) ?_
   refine c_ret ?_
   refine e_done2 Try.results9 rfl rfl ?_
   refine ⟨_, rfl, ?_⟩
   have e : i = ls.length := by omega
   subst e
   rw [hvl, hN.gw] at hw3
   exact ⟨_, _, rfl, .inr ⟨⟨by omega, fun l hl => hok l (by rw [List.take_length]; exact hl)⟩, rfl, b3_4, X, rfl, hN.abs, hw3.grows⟩⟩
section
variable {P : Program} {N : Nat} {ρ : Env} {w w0 : World} {Q : PostM} {ops : Array Oper} {rest : List Oper} {d : Nat} {ty : TypeId} {pos : String} {af : Array Edge} {g : Option (Nat × Bool)} {B : Nat} {M : Nat → Prop} {σ σ' : List As}
theorem l_eqlp {x y : Operand} {p : Option Addr} {T U : TypeId} (hT : P.underlying T = some (.pointer (P.pointee T))) (hg : wantE ops ρ g = true) (hN : Nat.blt d N = true) (hx : evalE ρ x = some (.pointer p)) (hy : evalE ρ y = some (.pointer none)) (n : RunL P N ops Q rest ((d, .bool (decide (p.isNone = true))) :: ρ) w) : RunL P N ops Q (⟨some d, .binOp .eql T x y U, ty, pos, af, g⟩ :: rest) ρ w :=
 l_val hg rfl hN (fun a ha => by
  have hgd : (eqGuard .eql T x y (.pointer p) (.pointer none)).run P w = .ok () w := by simp [eqGuard]
  simp only [execOp, ha.eval hx, ha.eval hy, Sem.run_bind, hgd, Result.andThen_ok]
  rw [run_eql_pointer_nil _ T p hT]
  cases p <;> rfl) n
end
theorem newH_ok {l : List Int} {G : GW} (h : okR l) : HdOk G (newH l) := by
 refine ⟨h.2, h.1, ?_, ?_, ?_, ?_, ?_, fun k hk => absurd hk (Nat.not_lt_zero _)⟩ <;> unfold newH <;> dsimp only <;> split <;> intros <;> first | omega | (simp; done) | (constructor <;> omega) | skip
theorem newG_wf {ls : List (List Int)} (h : okA ls) : Wf (newG ls) := by
 refine ⟨by simpa [newG] using h.1, by simp [newG], by simp [newG], fun i hd hh => ?_, fun s y hy => ?_, fun i j hd k _ h1 _ hl _ => ?_⟩
 ·have hh : (ls.map newH)[i]? = some hd := hh
  rw [List.getElem?_map] at hh
  cases hl : ls[i]? with
  | none => rw [hl] at hh; cases hh
  | some l =>
   rw [hl] at hh
   cases hh
   exact newH_ok (h.2 l (List.mem_of_getElem? hl))
 ·have hy : (List.replicate 41 (⟨0, 0, false⟩ : Sg))[s]? = some y := hy
  rw [List.getElem?_replicate] at hy
  split at hy
  ·cases hy
   exact .inl ⟨rfl, rfl, rfl⟩
  ·cases hy
 ·have h1 : (ls.map newH)[i]? = some hd := h1
  rw [List.getElem?_map] at h1
  cases hl2 : ls[i]? with
  | none => rw [hl2] at h1; cases h1
  | some l =>
   rw [hl2] at h1
   cases h1
   unfold newH at hl
   dsimp only at hl
   split at hl <;> omega
theorem newOk (v : Value) (vs : List Value) (ls : List (List Int)) (hvl : vs.length = ls.length) (hvb : vs.length ≤ 1099511627776) (hrg : ∀ l ∈ ls, Rg (-9223372036854775808) 9223372036854775807 l ∧ l.length ≤ 1099511627776) (hok : okA ls) (w : World) (hv : IV w v vs) (hvs : ∀ (j : Nat) (x : Value) (l : List Int), vs[j]? = some x → ls[j]? = some l → IV w x (ints .i64 l)) :
  CallsV P 9 [v] w fun r w' => ∃ (b : Nat) (X : Gm), r = .tuple #[ptr b, .int .i64 0] ∧ X.abs = newG ls ∧ Grow w w' (gW b X) :=
 Calls.mono (NewG v vs ls hvl hvb hrg w hv hvs) fun e w' he => by
  obtain ⟨r, e1, rv, e2, rfl, ⟨hn, _⟩ | ⟨_, rfl, b, X, rfl, hX, hG⟩⟩ := he
  ·exact absurd hok hn
  ·exact ⟨_, e1, b, X, rfl, hX, hG⟩
theorem doRes_wf {G : GW} {k : Int} (h : Wf G) : Wf (doRes G k).2 := by
 unfold doRes
 split
 ·show Wf (afterDo G k.toNat)
  unfold afterDo
  split
  ·rename_i i hi
   exact h.step (moves_mem (List.mem_of_getElem? hi)).2
  ·exact h
 ·exact h
theorem readF_rows (G : GW) (i : Int) : Rows_ 2 (readF G i) := by
 unfold readF
 split
 ·split
  ·exact readA_rows _
  ·exact fun _ h => nomatch h
 ·exact fun _ h => nomatch h
def restF : Nat → GW → Nat × GW
 | 0, G => (0, G)
 | n + 1, G => match nextG G with
  | none => (0, G)
  | some i => let r := restF n (stepG G i); (r.1 + 1, r.2)
theorem NextN.cons {G0 G : GW} {i k : Nat} (e : nextG G0 = some i) (h : NextN (stepG G0 i) k G) : NextN G0 (k + 1) G := by
 induction h with
 | zero => exact .succ .zero e
 | succ h e2 ih => exact .succ ih e2
theorem restF_next : ∀ (n : Nat) (G : GW), NextN G (restF n G).1 (restF n G).2
 | 0, _ => .zero
 | n + 1, G => by
  unfold restF
  cases e : nextG G with
  | none => exact .zero
  | some i => exact .cons e (restF_next n _)
theorem rest_eq {G G' : GW} {k n : Nat} (h : NextN G k G') (hn : nextG G' = none) (h2 : nextG (restF n G).2 = none) : k = (restF n G).1 ∧ G' = (restF n G).2 := by
 have hr := restF_next n G
 have h3 := hr.le h h2
 have h4 := h.le hr hn
 have e : k = (restF n G).1 := by omega
 subst e
 exact ⟨rfl, h.det hr⟩
abbrev wkG : GW := newG [[0], [0]]
abbrev wkG1 : GW := (doRes wkG 1).2
abbrev wkG2 : GW := (restF 40 wkG1).2
theorem wk_ok : okA [[0], [0]] := ⟨by decide, fun l hl => by simp at hl; subst hl; exact ⟨by decide, by simp⟩⟩
theorem wk_a : (movesG wkG).length = 2 ∧ (doRes wkG 1).1 = 0 := by decide +kernel
theorem wk_b : (restF 40 wkG1).1 = 19 ∧ (nextG wkG2).isNone = true ∧ overG wkG2 = true ∧ (sgF wkG2 21).built = 1 := by decide +kernel
theorem wk_c : (wkG2.hs[0]?).map (fun h => h.asks.take h.nx) = some [0] := by decide +kernel
theorem wk_d : (entS 0).1 = 170141183460469231731687303715884105728 := by decide +kernel
theorem wk_r : readF wkG2 0 = [[.int .u64 9223372036854775808, .int .u64 0]] := by
 unfold readF
 rw [if_pos (by decide), show (0 : Int).toNat = 0 from rfl]
 have h := wk_c
 cases hh : wkG2.hs[0]? with
 | none => rw [hh] at h; cases h
 | some x =>
  rw [hh] at h
  have e : x.asks.take x.nx = [0] := by simpa using h
  show readA (x.asks.take x.nx) = _
  rw [e]
  show [wrow (entS 0).1] = _
  rw [wk_d]
  rfl
theorem numL28 (x : Int) (w : World) :
  CallsV P 10 [.int .i64 x] w fun r w' => r = .int .i64 x ∧ w = w' := by
 refine enterW Try.func10 rfl Try.ntmps10 rfl ?_
 refine c_seq (c_region (l_assign rfl rfl rfl (l_nil (e_then ?_))))
 refine c_keep [0] (.cons rfl .nil) ?_
 refine c_seq (c_region (l_move rfl rfl rfl (l_assign rfl rfl rfl (l_nil (e_then ?_)))))
 refine c_keep [2] (.cons rfl .nil) ?_
 refine c_ret ?_
 refine e_done1 Try.results10 rfl ?_
 refine ⟨_, rfl, ?_⟩
 exact ⟨rfl, rfl⟩
theorem wakes28  (w : World) :
  CallsV P 11 [] w fun r w' => r = .bool true ∧ Grow w w' [] := by
 refine enterW Try.func11 rfl Try.ntmps11 rfl ?_
 have hw0 := St.start w
 refine c_seq (c_region (l_assign rfl rfl rfl (l_nil (e_then ?_))))
 refine c_keep [] .nil ?_
 refine c_seq (c_region ?_)
 refine v_lit hw0 rfl rfl Try.underlying23 ti3 rfl (.cons rfl (by first | rfl | assumption) .nil) rfl rfl rfl (fun b1_0 w1 hw1 => ?_)
 try clear hw0
 refine v_lit hw1 rfl rfl Try.underlying23 ti3 rfl (.cons rfl (by first | rfl | assumption) .nil) rfl rfl rfl (fun b1_1 w2 hw2 => ?_)
 try clear hw1
 refine v_lit hw2 rfl rfl Try.underlying22 ti23 rfl (.cons rfl (by first | rfl | assumption) (.cons rfl (by first | rfl | assumption) .nil)) rfl rfl rfl (fun b1_2 w3 hw3 => ?_)
 try clear hw2
 refine l_call rfl rfl Try.func9 rfl rfl (.cons rfl .nil) (newOk _ [.slice (some ⟨b1_0, 0, none⟩) 1 1, .slice (some ⟨b1_1, 0, none⟩) 1 1] [[0], [0]] rfl (by simp) (by intro l hl; simp at hl; subst hl; exact ⟨fun x hx => by simp at hx; omega, by simp⟩) wk_ok w3 (blk_iv (hw3.ok mem0)) (fun j x l h1 h2 => by rcases j with _ | _ | j <;> simp at h1 h2 <;> subst h1 h2 <;> first | exact blk_iv (hw3.ok mem2) | exact blk_iv (hw3.ok mem1))) ?_
 rintro _ w4 ⟨b, X, rfl, hXa, hG⟩
 have hw4 := hG _ _ _ _ hw3
 simp only [gW, List.cons_append, List.nil_append] at hw4
 try clear hX hw3
 refine l_move rfl rfl rfl (l_extract rfl rfl rfl rfl (l_extract rfl rfl rfl rfl (l_assign rfl rfl rfl (l_assign rfl rfl rfl (l_nil ?_)))))
 refine e_then ?_
 refine c_keep [1, 2] (.cons rfl (.cons rfl .nil)) ?_
 refine c_seq (c_seq (c_region ?_))
 have hwf : Wf X.abs := by rw [hXa]; exact newG_wf wk_ok
 refine l_move rfl rfl rfl ?_
 refine l_callp rfl rfl Try.func10 rfl rfl (.cons rfl .nil) (numL28 _ _) ?_
 refine l_neq rfl rfl rfl rfl ?_
 refine l_turn (s := 15) (v' := .bool false) rfl (by simp) ?_
 refine l_move rfl rfl rfl (l_move rfl rfl rfl ?_)
 refine l_eqlp (by kernel_rfl) rfl rfl rfl rfl ?_
 refine l_turn (s := 18) (v' := .bool false) rfl (by rfl) ?_
 refine l_pick_f rfl rfl rfl rfl ?_
 refine l_move rfl rfl rfl (l_move rfl rfl rfl ?_)
 refine l_call rfl rfl Try.func17 rfl rfl (.cons rfl .nil) (MovesG b X hwf w4 (St.rows (τ := gW b X) hw4)) ?_
 rintro mv w5 ⟨_, rfl, hX2⟩
 have hw5 := hX2 _ _ _ _ hw4
 simp only [gW, List.cons_append, List.nil_append] at hw5
 try clear hX hw4
 refine k_len rfl rfl Try.underlying38 rfl (Own.ik (movesR_rows _) (hw5.ok mem4)) ?_
 refine l_neq rfl rfl rfl rfl ?_
 refine l_turn (s := 24) (v' := .bool false) rfl (by rw [movesR_len, hXa, wk_a.1]; rfl) ?_
 refine l_pick_f rfl rfl rfl rfl ?_
 refine l_nil (e_then ?_)
 refine c_keep [1, 25] (.cons rfl (.cons rfl .nil)) ?_
 refine c_cond_f rfl rfl ?_
 refine c_skip (e_then ?_)
 refine c_keep [1] (.cons rfl .nil) ?_
 refine c_seq (c_region (l_move rfl rfl rfl ?_))
 refine l_call rfl rfl Try.func24 rfl rfl (.cons rfl (.cons rfl .nil)) (DoG b X hwf 1 (by omega) w5 (St.rows (τ := gW b X) hw5)) ?_
 rintro _ w6 ⟨Y, rfl, hY, hX2⟩
 have hw6 := hX2 _ _ _ _ hw5
 simp only [gW, List.cons_append, List.nil_append] at hw6
 try clear hX hw5
 refine l_assign rfl rfl rfl (l_nil (e_then ?_))
 refine c_keep [1, 3] (.cons rfl (.cons rfl .nil)) ?_
 refine c_seq (c_region ?_)
 have hwfY : Wf Y.abs := by rw [hY]; exact doRes_wf hwf
 refine l_move rfl rfl rfl ?_
 refine l_call rfl rfl Try.func13 rfl rfl (.cons rfl .nil) (RestG b Y hwfY w6 (St.rows (τ := gW b Y) hw6)) ?_
 rintro _ w7 ⟨k, Z, rfl, hZ, hZn, hX2⟩
 have hw7 := hX2 _ _ _ _ hw6
 simp only [gW, List.cons_append, List.nil_append] at hw7
 try clear hX hw6
 refine l_assign rfl rfl rfl (l_nil (e_then ?_))
 refine c_keep [1, 3, 4] (.cons rfl (.cons rfl (.cons rfl .nil))) ?_
 refine c_seq (c_region ?_)
 have hwfZ : Wf Z.abs := hZ.wf hwfY
 rw [hY, hXa] at hZ
 obtain ⟨hk19, hZe⟩ := rest_eq (n := 40) hZ hZn (by have := wk_b.2.1; simpa using this)
 have hrz : readF Z.abs 0 = [[.int .u64 9223372036854775808, .int .u64 0]] := by rw [hZe]; exact wk_r
 refine l_move rfl rfl rfl ?_
 refine l_call rfl rfl Try.func15 rfl rfl (.cons rfl (.cons rfl .nil)) (ReadG b Z hwfZ 0 w7 (GF.of (σ := _) hw7)) ?_
 rintro rd w8 ⟨_, rfl, hG⟩
 have hw8 := hG _ _ _ _ hw7
 try clear hG hw7
 simp only [List.cons_append, List.nil_append] at hw8
 refine l_assign rfl rfl rfl (l_nil (e_then ?_))
 refine c_keep [1, 3, 4, 5] (.cons rfl (.cons rfl (.cons rfl (.cons rfl .nil)))) ?_
 refine c_seq (c_region (l_move rfl rfl rfl ?_))
 refine l_callp rfl rfl Try.func10 rfl rfl (.cons rfl .nil) (numL28 _ _) ?_
 refine l_eql rfl rfl rfl rfl ?_
 refine l_turn (s := 34) (v' := .bool true) rfl (by rw [hXa, wk_a.2]; rfl) ?_
 refine l_move rfl rfl rfl (l_move rfl rfl rfl ?_)
 refine l_eql rfl rfl rfl rfl ?_
 refine l_turn (s := 37) (v' := .bool true) rfl (by rw [hk19, wk_b.1]; rfl) ?_
 refine l_pick_t rfl rfl rfl rfl ?_
 refine l_move rfl rfl rfl (l_move rfl rfl rfl ?_)
 refine l_call rfl rfl Try.func21 rfl rfl (.cons rfl .nil) (OverG b Z hwfZ w8 (GF.of (σ := _) (St_right (τ := [_]) hw8))) ?_
 rintro _ w9 ⟨rfl, hG⟩
 have hw9 := hG _ _ _ _ hw8
 try clear hG hw8
 simp only [List.cons_append, List.nil_append] at hw9
 refine l_turn (s := 41) (v' := .bool true) rfl (by rw [hZe]; exact congrArg Value.bool wk_b.2.2.1) ?_
 refine l_pick_t rfl rfl rfl rfl ?_
 refine l_move rfl rfl rfl (l_move rfl rfl rfl ?_)
 refine l_callp rfl rfl Try.func16 rfl rfl (.cons rfl (.cons rfl .nil)) (BuiltG b Z hwfZ.sgX 21 w9 (GF.of (σ := _) (St_right (τ := [_]) hw9))) ?_
 refine l_eql rfl rfl rfl rfl ?_
 refine l_turn (s := 46) (v' := .bool true) rfl (by rw [hZe, wk_b.2.2.2]; rfl) ?_
 refine l_pick_t rfl rfl rfl rfl ?_
 refine l_move rfl rfl rfl (l_move rfl rfl rfl ?_)
 refine k_len rfl rfl Try.underlying34 rfl (Own.ik (readF_rows _ _) (hw9.ok mem0)) ?_
 refine l_eql rfl rfl rfl rfl ?_
 refine l_turn (s := 51) (v' := .bool true) rfl (by rw [hrz]; rfl) ?_
 refine l_pick_t rfl rfl rfl rfl ?_
 refine l_move rfl rfl rfl (l_move rfl rfl rfl ?_)
 refine k_addr (j := 0) rfl rfl Try.underlying34 tz77 (by decide) rfl rfl (Own.ik (readF_rows _ _) (hw9.ok mem0)) rfl (by rw [hrz]; decide) (fun A7 c7 hA7 => ?_)
 refine k_load (j := 0) (r := [.int .u64 9223372036854775808, .int .u64 0]) rfl rfl Try.underlying77 rfl tz77 rfl hA7 (Own.ik (readF_rows _ _) (hw9.ok mem0)) (by rw [hrz]; rfl) ?_
 refine l_buildS rfl rfl pl77 ta77 (.one rfl rfl (by first | rfl | assumption) .zero .nil) ?_
 refine l_eqlA rfl rfl fl77 rfl rfl (.int rfl rfl (.int rfl rfl .nil)) ?_
 refine l_turn (s := 58) (v' := .bool true) rfl (by simp) ?_
 refine l_pick_t rfl rfl rfl rfl ?_
 refine l_assign rfl rfl rfl (l_nil (e_then ?_))
 refine c_keep [0] (.cons rfl .nil) ?_
 refine c_ret ?_
 refine e_done1 Try.results11 rfl ?_
 refine ⟨_, rfl, ?_⟩
 have hw10 := St.del (.tail (.tail (.tail (.tail (.tail (.tail (.tail (.tail .head)))))))) hw9
 try clear hw9
 have hw11 := St.del (.tail (.tail (.tail (.tail (.tail (.tail (.tail .head))))))) hw10
 try clear hw10
 have hw12 := St.del (.tail (.tail (.tail (.tail (.tail (.tail .head)))))) hw11
 try clear hw11
 have hw13 := St.del (.tail (.tail (.tail (.tail (.tail .head))))) hw12
 try clear hw12
 have hw14 := St.del (.tail (.tail (.tail (.tail .head)))) hw13
 try clear hw13
 have hw15 := St.del (.tail (.tail (.tail .head))) hw14
 try clear hw14
 have hw16 := St.del (.tail (.tail .head)) hw15
 try clear hw15
 have hw17 := St.del (.tail .head) hw16
 try clear hw16
 have hw18 := St.del .head hw17
 try clear hw17
 exact ⟨rfl, hw18.grows⟩
instance (l : List Int) : Decidable (okR l) := by unfold okR; infer_instance
instance (ls : List (List Int)) : Decidable (okA ls) := by unfold okA; infer_instance
def rgA (ls : List (List Int)) : Prop := ∀ l ∈ ls, (∀ x ∈ l, -1000 ≤ x ∧ x ≤ 1000) ∧ l.length ≤ 100
instance (ls : List (List Int)) : Decidable (rgA ls) := by unfold rgA; infer_instance
end Go.Proofs.Ytgfkagaacdblbaa.W
