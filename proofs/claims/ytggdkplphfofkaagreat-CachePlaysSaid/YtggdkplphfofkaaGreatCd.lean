/- walks of the cache's methods -/
import Derived.Test.YtggdkplphfofkaaGreatCc
set_option linter.unusedVariables false
set_option linter.unusedSimpArgs false
set_option maxRecDepth 10000
namespace Go.Proofs.YtggdkplphfofkaaGreat.W
open Go.Vc Go.RowKit
abbrev cacW (b : Nat) (L : Cac) : List As := [As.blk b 64 (cacC L), As.many (inR L)]
def hasP (L : Cac) (s : Nat) : Bool := match L[s]? with | some (some _) => true | _ => false
def pcP (x : Option (Nat × Value)) : Option Addr := x.map fun y => ⟨y.1, 0, none⟩
theorem hasP_at {L : Cac} {s : Nat} {x : Option (Nat × Value)} (h : L[s]? = some x) : hasP L s = x.isSome := by
 unfold hasP
 rw [h]
 cases x <;> rfl
theorem CacS.has {L L' : Cac} {s p : Nat} {v : Value} (h : CacS L s L' p v) (t : Nat) : hasP L' t = (decide (t = s) || hasP L t) := by
 have hs : s < L'.length := (List.getElem?_eq_some_iff.1 h.1).1
 by_cases e : t = s
 ·subst e
  rw [hasP_at h.1]
  simp
 ·rcases h.2 with h2 | ⟨_, h2⟩
  ·rw [h2]
   simp [e]
  ·rw [h2]
   unfold hasP
   rw [List.getElem?_set_ne (by omega)]
   simp [e]
theorem cacLd {b : Nat} {L : Cac} {s : Nat} {x : Option (Nat × Value)} {w : World} (hb : (As.blk b 64 (cacC L)).ok w) (hm : (As.many (inR L)).ok w) (hx : L[s]? = some x) : CallsV P 22 [.pointer (some ⟨b, s * 5 + 4, none⟩)] w fun r w' => r = .pointer (pcP x) ∧ w = w' := by
 have hc := cacC_at hx 4 (by omega)
 rcases x with _ | ⟨p, v⟩
 ·exact syLoadPR0 hb hc
 ·exact syLoadPR hb hc (hm _ (inR_mem.2 ⟨s, _, hx, .head _⟩))
theorem cac_ik {L : Cac} {s p : Nat} {v : Value} {w : World} (hm : (As.many (inR L)).ok w) (hx : L[s]? = some (some (p, v))) : (As.blk p 81 [v]).ok w ∧ IK w 3 v (entR s) :=
 ⟨hm _ (inR_mem.2 ⟨s, _, hx, .head _⟩), Own.ik (entR_rows s) (hm _ (inR_mem.2 ⟨s, _, hx, .tail _ (.head _)⟩))⟩
def CacQ (L : Cac) (q : Int) (L' : Cac) : Prop := if -342 ≤ q ∧ q ≤ 308 then ∃ p v, CacS L ((q + 342) / 16).toNat L' p v else L' = L
theorem entR_q {q : Int} (hq : -342 ≤ q ∧ q ≤ 308) : (entR (((q + 342) / 16).toNat : Int))[((q + 342) % 16).toNat]? = some (entW q) := by
 have hs : (((q + 342) / 16).toNat : Int) = (q + 342) / 16 := by omega
 rw [hs, entR_at]
 ·unfold firstS
  rw [if_neg (by omega)]
  dsimp only
  rw [show -342 + 16 * ((q + 342) / 16) + (((q + 342) % 16).toNat : Int) = q by omega]
 ·unfold firstS
  rw [if_neg (by omega)]
  dsimp only
  split <;> omega
theorem newC  (w : World) :
  CallsV P 4 [] w fun r w' => ∃ b, r = .pointer (some ⟨b, 0, none⟩) ∧ Grow w w' (cacW b (List.replicate 41 none)) := by
 refine enterW Tryz.func4 rfl Tryz.ntmps4 rfl ?_
 have hw0 := St.start w
 refine c_seq (c_region (l_assign rfl rfl rfl (l_nil (e_then ?_))))
 refine c_keep [] .nil ?_
 refine c_seq (c_region ?_)
 refine l_buildS rfl rfl pl64 ta64 .nil ?_
 refine l_box hw0 rfl rfl rfl (fun b1_1 w1 hw1 => ?_)
 try clear hw0
 refine l_assign rfl rfl rfl (l_nil (e_then ?_))
 refine c_keep [0] (.cons rfl .nil) ?_
 refine c_ret ?_
 refine e_done1 Tryz.results4 rfl ?_
 refine ⟨_, rfl, ?_⟩
 have hz : (As.blk b1_1 64 _ :: ([] : List As)) = [As.blk b1_1 64 (cacC (List.replicate 41 none))] := rfl
 have h1 := many_iff (many_nil (hw1.cast hz)) (τ' := inR (List.replicate 41 none)) (fun A => by rw [inR_mem]; exact ⟨fun ⟨s, x, hx, hA⟩ => (by obtain ⟨hs, h2⟩ := List.getElem?_eq_some_iff.1 hx; rw [List.getElem_replicate] at h2; subst h2; exact hA), fun h => (List.not_mem_nil h).elim⟩)
 exact ⟨_, rfl, (h1.front1).grows⟩
theorem hasC (s : Int) (w : World) :
  CallsV P 20 [.int .i64 s] w fun r w' => r = .bool (decide (0 ≤ s ∧ s < 41)) ∧ w = w' := by
 refine enterW Tryz.func20 rfl Tryz.ntmps20 rfl ?_
 refine c_seq (c_region (l_assign rfl rfl rfl (l_nil (e_then ?_))))
 refine c_keep [0] (.cons rfl .nil) ?_
 refine c_seq (c_region (l_move rfl rfl rfl ?_))
 refine l_geq rfl rfl rfl rfl ?_
 refine l_move rfl rfl rfl ?_
 apply l_and 2 [] rfl rfl (.cons rfl .nil) rfl rfl (fun _ => rfl) rfl rfl rfl
 ·intro hg1_3
  refine l_move rfl rfl rfl ?_
  refine l_lss rfl rfl rfl rfl ?_
  refine l_nil ?_
  exact e_stays rfl (.cons rfl (congrArg Value.bool (decide_eq_true hg1_3).symm) .nil)
 refine l_assign rfl rfl rfl (l_nil (e_then ?_))
 refine c_keep [2] (.cons rfl .nil) ?_
 refine c_ret ?_
 refine e_done1 Tryz.results20 rfl ?_
 refine ⟨_, rfl, ?_⟩
 exact ⟨rfl, rfl⟩
theorem completeC (b : Nat) (L : Cac) (hL : L.length = 41) (s : Nat) (hs : s < 41) (w : World) (hS : Sep w.heap.size (fps (cacW b L)) w (cacW b L)) :
  CallsV P 25 [.pointer (some ⟨b, 0, none⟩), .int .i64 (s : Int)] w fun r w' => ∃ v L' p, r = v ∧ CacS L s L' p v ∧ Trans w w' (cacW b L) (cacW b L') := by
 refine enterW Tryz.func25 rfl Tryz.ntmps25 rfl ?_
 have hw0 : St w w.heap.size (fps (cacW b L)) (cacW b L) w := St.startS hS
 refine c_seq (c_region ?_)
 refine l_box1 hw0 rfl rfl rfl rfl (fun b0_0 w1 hw1 => ?_)
 try clear hw0
 refine l_assign rfl rfl rfl (l_nil (e_then ?_))
 refine c_keep [0, 3] (.cons rfl (.cons rfl .nil)) ?_
 refine c_seq ?_
 have hw2 := hw1.drewn
 try clear hw1
 refine c_any (n := 7) [false, false, false, false, false, false, false] (fun wS => (As.blk b0_0 3 [.int .i64 (s : Int)]).ok wS) (by kernel_rfl) rfl rfl ?_
 apply a_take (L' := [true, false, false, false, false, false, false]) 0 rfl (by kernel_rfl) (by kernel_rfl) (by kernel_rfl) rfl rfl rfl rfl rfl (hw2.ok mem0)
 ·intro wS sS
  refine l_move rfl rfl rfl (l_nil ?_)
  exact e_got rfl
 refine a_nil (L' := [true, false, true, false, false, false, false]) 2 rfl (by kernel_rfl) (by kernel_rfl) (by kernel_rfl) rfl rfl rfl (hw2.ok mem0) rfl ?_
 apply a_take (L' := [true, true, true, false, false, false, false]) 1 rfl (by kernel_rfl) (by kernel_rfl) (by kernel_rfl) rfl rfl rfl rfl rfl (hw2.ok mem0)
 ·intro wS sS
  refine l_load_blk (blk_st sS) mem0 rfl rfl Tryz.underlying3 rfl rfl rfl ?_
  refine l_nil ?_
  exact e_got rfl
 apply a_take (L' := [true, true, true, true, false, false, false]) 3 rfl (by kernel_rfl) (by kernel_rfl) (by kernel_rfl) rfl rfl rfl rfl rfl (hw2.ok mem0)
 ·intro wS sS
  refine l_field fo64_0 rfl rfl rfl (l_nil ?_)
  exact e_got rfl
 apply a_take (L' := [true, true, true, true, true, false, false]) 4 rfl (by kernel_rfl) (by kernel_rfl) (by kernel_rfl) rfl rfl rfl rfl rfl (hw2.ok mem0)
 ·intro wS sS
  refine l_indexAn (j := s) (n := 5) rfl rfl Tryz.underlying62 tz61 rfl rfl rfl hs ?_
  refine l_nil ?_
  exact e_got rfl
 refine a_one (L' := [true, true, true, true, true, true, false]) 5 (by kernel_rfl) rfl rfl ?_
 refine l_alloc hw2 ta95 rfl rfl (fun b1_5 w3 hw3 => ?_)
 try clear hw2
 refine l_nil ?_
 refine e_any (hw3.ok mem1) ?_
 refine a_one (L' := [true, true, true, true, true, true, true]) 6 (by kernel_rfl) rfl rfl ?_
 refine l_store_blk hw3 .head (by repeat (first | exact .zero | apply SetAt.succ)) rfl tz95 rfl rfl (by first | rfl | assumption) (fun w4 hw4 => ?_)
 try clear hw3
 refine l_nil ?_
 refine e_any (hw4.ok mem1) ?_
 refine a_done (by kernel_rfl) ?_
 refine e_then ?_
 refine c_keep [3, 5] (.cons rfl (.cons rfl .nil)) ?_
 refine c_seq (c_region ?_)
 refine l_load_blk hw4 mem0 rfl rfl Tryz.underlying95 rfl rfl rfl ?_
 refine l_nilCheck rfl rfl rfl (l_field fo61_0 rfl rfl rfl ?_)
 refine l_makeFunc rfl rfl (.cons rfl (.cons rfl .nil)) ?_
 have hw5 := St.frontL (l := [_, _, _]) hw4
 simp only [List.cons_append, List.nil_append] at hw5
 try clear hw4
 have hw6 := St.frontL (l := [_, _, _]) hw5
 simp only [List.cons_append, List.nil_append] at hw6
 try clear hw5
 have hw7 := St.frontL (l := [_, _, _]) hw6
 simp only [List.cons_append, List.nil_append] at hw7
 try clear hw6
 have hw8 := St.frontL (l := [_, _, _]) hw7
 simp only [List.cons_append, List.nil_append] at hw8
 try clear hw7
 refine l_call rfl rfl Tryz.func31 rfl rfl (.cons rfl (.cons rfl .nil)) (doC L hL s hs b1_5 b0_0 b w4 (St.rows (τ := dcR b1_5 b0_0 b s L) hw8)) ?_
 rintro _ w9 ⟨rfl, L', p, v, hC, hX⟩
 have hw9 := hX _ _ _ _ hw8
 simp only [dcR, List.cons_append, List.nil_append] at hw9
 try clear hX hw8
 refine l_nil (e_then ?_)
 refine c_keep [5] (.cons rfl .nil) ?_
 refine c_seq (c_region ?_)
 have hpk := cac_ik (hw9.ok (.tail _ (.tail _ (.tail _ (.head _))))) hC.1
 refine l_load_blk hw9 mem0 rfl rfl Tryz.underlying95 rfl rfl rfl ?_
 refine l_nilCheck rfl rfl rfl (l_field fo61_2 rfl rfl rfl ?_)
 refine l_callp rfl rfl Tryz.func22 rfl rfl (.cons rfl .nil) (cacLd (hw9.ok mem2) (hw9.ok mem3) hC.1) ?_
 refine l_nilCheck rfl rfl rfl ?_
 refine l_load_blk (blk_st hpk.1) mem0 rfl rfl Tryz.underlying81 rfl rfl rfl ?_
 refine l_assign rfl rfl rfl (l_nil (e_then ?_))
 refine c_keep [4] (.cons rfl .nil) ?_
 refine c_ret ?_
 refine e_done1 Tryz.results25 rfl ?_
 refine ⟨_, rfl, ?_⟩
 have hw10 := St.front3 hw9
 try clear hw9
 have hw11 := St.front3 hw10
 try clear hw10
 have hw12 := St.del (.tail (.tail (.tail .head))) hw11
 try clear hw11
 have hw13 := St.del (.tail (.tail .head)) hw12
 try clear hw12
 exact ⟨v, L', p, rfl, hC, hw13.transS⟩
theorem EntryC (b : Nat) (L : Cac) (hL : L.length = 41) (q : Int) (hq : -9223372036854775808 ≤ q ∧ q ≤ 9223372036854775807) (w : World) (hS : Sep w.heap.size (fps (cacW b L)) w (cacW b L)) :
  CallsV P 12 [.pointer (some ⟨b, 0, none⟩), .int .i64 q] w fun r w' => ∃ L', r = .tuple #[wideV (entS q).1, .int .i64 (entS q).2.1, .int .i64 (entS q).2.2] ∧ CacQ L q L' ∧ Trans w w' (cacW b L) (cacW b L') := by
 refine enterW Tryz.func12 rfl Tryz.ntmps12 rfl ?_
 have hw0 : St w w.heap.size (fps (cacW b L)) (cacW b L) w := St.startS hS
 refine c_seq (c_region ?_)
 refine l_alloc hw0 ta67 rfl rfl (fun b0_0 w1 hw1 => ?_)
 try clear hw0
 refine l_assign rfl rfl rfl (l_assign rfl rfl rfl (l_nil (e_then ?_)))
 refine c_keep [0, 1, 4] (.cons rfl (.cons rfl (.cons rfl .nil))) ?_
 refine c_seq (c_region (l_move rfl rfl rfl ?_))
 refine l_callp rfl rfl Tryz.func24 rfl rfl (.cons rfl .nil) (whereP q hq _) ?_
 refine l_move rfl rfl rfl (l_extract rfl rfl rfl rfl (l_extract rfl rfl rfl rfl (l_extract rfl rfl rfl rfl (l_assign rfl rfl rfl (l_assign rfl rfl rfl ?_)))))
 refine l_assign rfl rfl rfl (l_nil (e_then ?_))
 refine c_keep [0, 4, 6, 7, 8] (.cons rfl (.cons rfl (.cons rfl (.cons rfl (.cons rfl .nil))))) ?_
 refine c_seq (c_seq (c_region (l_move rfl rfl rfl ?_)))
 refine l_neq rfl rfl rfl rfl ?_
 refine l_nil (e_then ?_)
 refine c_keep [0, 4, 6, 7, 8, 17] (.cons rfl (.cons rfl (.cons rfl (.cons rfl (.cons rfl (.cons rfl .nil)))))) ?_
 first | refine c_cond rfl (fun hc0 => ?_) (fun hc0 => ?_) | refine c_condb rfl (fun hc0 => ?_) (fun hc0 => ?_)
 ·skip
  have hbad : q < -342 ∨ 308 < q := by
   rcases Int.lt_or_le q (-342) with h | h
   ·exact .inl h
   ·rcases Int.lt_or_le 308 q with h2 | h2
    ·exact .inr h2
    ·exact absurd (show (whereS q).2.2 = 0 by unfold whereS; rw [if_neg (by omega)]) hc0
  have ewe : whereS q = (0, 0, 60) := if_pos hbad
  have ene : entS q = (0, 0, 60) := if_pos hbad
  refine c_seq (c_region ?_)
  refine l_load_agg hw1 mem0 rfl rfl Tryz.underlying67 rfl tz67 rfl (.take (.take .nil)) ?_
  refine l_move rfl rfl rfl ?_
  refine l_store_blks hw1 .head (.zero (.zero .nil)) rfl tz67 rfl rfl (by first | (simp [Value.oneCell']; done) | (intro u hu; simp only [List.mem_cons, List.not_mem_nil, or_false] at hu; rcases hu with rfl | rfl <;> first | rfl | assumption)) (fun w2 hw2 => ?_)
  try clear hw1
  refine l_assign rfl rfl rfl (l_assign rfl rfl rfl (l_nil (e_then ?_)))
  refine c_keep [4, 5, 6] (.cons rfl (.cons rfl (.cons rfl .nil))) ?_
  refine c_ret ?_
  refine e_then_ret ?_
  refine e_doneN Tryz.results12 (.cell rfl (load_agg_run hw2 mem0 Tryz.underlying67 rfl tz67 (.take (.take .nil))) (.tmp rfl (.tmp rfl .nil))) rfl ?_
  refine ⟨_, rfl, ?_⟩
  have hw3 := St.front2 hw2
  try clear hw2
  have hw4 := St.front2 hw3
  try clear hw3
  have hw5 := St.del (.tail (.tail .head)) hw4
  try clear hw4
  refine ⟨L, ?_, ?_, hw5.transS⟩
  ·rw [ene, ewe]
   all_goals rfl
  ·unfold CacQ
   rw [if_neg (by omega)]
 ·skip
  have hgood : -342 ≤ q ∧ q ≤ 308 := by
   rcases Int.lt_or_le q (-342) with h | h
   ·exact absurd (show (whereS q).2.2 = 60 by unfold whereS; rw [if_pos (by omega)]) (by omega)
   ·rcases Int.lt_or_le 308 q with h2 | h2
    ·exact absurd (show (whereS q).2.2 = 60 by unfold whereS; rw [if_pos (by omega)]) (by omega)
    ·exact ⟨h, h2⟩
  have ewe : whereS q = ((q + 342) / 16, (q + 342) % 16, 0) := if_neg (by omega)
  refine c_skip (e_then ?_)
  refine c_keep [0, 4, 7, 8] (.cons rfl (.cons rfl (.cons rfl (.cons rfl .nil)))) ?_
  refine c_seq (c_region (l_move rfl rfl rfl (l_move rfl rfl rfl ?_)))
  refine l_turn (s := 21) (v' := .int .i64 (((q + 342) / 16).toNat : Int)) rfl (congrArg (Value.int .i64) (by rw [ewe]; dsimp only; omega)) ?_
  have hw6 := St.frontL (l := [_, _]) hw1
  simp only [List.cons_append, List.nil_append] at hw6
  try clear hw1
  have hw7 := St.frontL (l := [_, _]) hw6
  simp only [List.cons_append, List.nil_append] at hw7
  try clear hw6
  refine l_call rfl rfl Tryz.func25 rfl rfl (.cons rfl (.cons rfl .nil)) (completeC b L hL ((q + 342) / 16).toNat (by omega) w1 (St.rows (τ := cacW b L) hw7)) ?_
  rintro v w8 ⟨_, L', p, rfl, hC, hX⟩
  have hw8 := hX _ _ _ _ hw7
  simp only [cacW, List.cons_append, List.nil_append] at hw8
  have hik := (cac_ik (hw8.ok (.tail _ (.head _))) hC.1).2
  try clear hX hw7
  refine l_move rfl rfl rfl ?_
  refine l_turn (s := 23) (v' := .int .i64 (((q + 342) % 16).toNat : Int)) rfl (congrArg (Value.int .i64) (by rw [ewe]; dsimp only; omega)) ?_
  have hent := entR_q hgood
  have hel := (List.getElem?_eq_some_iff.1 hent).1
  refine k_addr (j := ((q + 342) % 16).toNat) rfl rfl Tryz.underlying81 tz87 (by decide) rfl rfl (by first | exact hw8.ibl mem0 | exact hw8.ibl mem2 | assumption) (by first | rfl | omega) (by first | omega | (simp; done) | (simp; omega)) (fun ad4_4 ac4_4 hA4_4 => ?_)
  refine k_load (j := ((q + 342) % 16).toNat) rfl rfl Tryz.underlying87 rfl tz87 rfl hA4_4 (by first | exact hw8.ibl mem0 | exact hw8.ibl mem2 | assumption) (hent) ?_
  refine l_alloc hw8 ta87 rfl rfl (fun b4_6 w9 hw9 => ?_)
  try clear hw8
  refine l_store_blks hw9 .head (.zero (.zero (.zero .nil))) rfl tz87 rfl rfl (by first | (simp [Value.oneCell']; done) | (intro u hu; simp only [List.mem_cons, List.not_mem_nil, or_false] at hu; rcases hu with rfl | rfl | rfl <;> first | rfl | assumption)) (fun w10 hw10 => ?_)
  try clear hw9
  refine l_nil (e_then ?_)
  refine c_keep [4, 9] (.cons rfl (.cons rfl .nil)) ?_
  refine c_seq ?_
  have hw11 := hw10.drewn
  try clear hw10
  refine c_any (n := 7) [false, false, false, false, false, false, false] (fun wS => (As.blk b4_6 87 (entW q)).ok wS) (by kernel_rfl) rfl rfl ?_
  apply a_take (L' := [true, false, false, false, false, false, false]) 0 rfl (by kernel_rfl) (by kernel_rfl) (by kernel_rfl) rfl rfl rfl rfl rfl (hw11.ok mem0)
  ·intro wS sS
   refine l_field fo87_0 rfl rfl rfl (l_nil ?_)
   exact e_got rfl
  apply a_take (L' := [true, true, false, false, false, false, false]) 1 rfl (by kernel_rfl) (by kernel_rfl) (by kernel_rfl) rfl rfl rfl rfl rfl (hw11.ok mem0)
  ·intro wS sS
   refine l_load_agg (blk_st sS) mem0 rfl rfl Tryz.underlying67 rfl tz67 rfl (.take (.take .nil)) ?_
   refine l_nil ?_
   exact e_got rfl
  apply a_take (L' := [true, true, true, false, false, false, false]) 2 rfl (by kernel_rfl) (by kernel_rfl) (by kernel_rfl) rfl rfl rfl rfl rfl (hw11.ok mem0)
  ·intro wS sS
   refine l_field fo87_1 rfl rfl rfl (l_nil ?_)
   exact e_got rfl
  apply a_take (L' := [true, true, true, true, false, false, false]) 3 rfl (by kernel_rfl) (by kernel_rfl) (by kernel_rfl) rfl rfl rfl rfl rfl (hw11.ok mem0)
  ·intro wS sS
   refine l_load_blk (blk_st sS) mem0 rfl rfl Tryz.underlying3 rfl rfl rfl ?_
   refine l_nil ?_
   exact e_got rfl
  refine a_one (L' := [true, true, true, true, true, false, false]) 4 (by kernel_rfl) rfl rfl ?_
  refine l_store_blks hw11 (.tail (.tail (.tail .head))) (.zero (.zero .nil)) rfl tz67 rfl rfl (by first | (simp [Value.oneCell']; done) | (intro u hu; simp only [List.mem_cons, List.not_mem_nil, or_false] at hu; rcases hu with rfl | rfl <;> first | rfl | assumption)) (fun w12 hw12 => ?_)
  try clear hw11
  refine l_nil ?_
  refine e_any (hw12.ok mem0) ?_
  apply a_take (L' := [true, true, true, true, true, true, false]) 5 rfl (by kernel_rfl) (by kernel_rfl) (by kernel_rfl) rfl rfl rfl rfl rfl (hw12.ok mem0)
  ·intro wS sS
   refine l_assign rfl rfl rfl (l_nil ?_)
   exact e_got rfl
  apply a_take (L' := [true, true, true, true, true, true, true]) 6 rfl (by kernel_rfl) (by kernel_rfl) (by kernel_rfl) rfl rfl rfl rfl rfl (hw12.ok mem0)
  ·intro wS sS
   refine l_assign rfl rfl rfl (l_nil ?_)
   exact e_got rfl
  refine a_done (by kernel_rfl) ?_
  refine e_then ?_
  refine c_keep [4, 5, 6] (.cons rfl (.cons rfl (.cons rfl .nil))) ?_
  refine c_ret ?_
  refine e_doneN Tryz.results12 (.cell rfl (load_agg_run hw12 mem3 Tryz.underlying67 rfl tz67 (.take (.take .nil))) (.tmp rfl (.tmp rfl .nil))) rfl ?_
  refine ⟨_, rfl, ?_⟩
  have hw13 := St.front2 hw12
  try clear hw12
  have hw14 := St.front2 hw13
  try clear hw13
  have hw15 := St.del (.tail (.tail (.tail .head))) hw14
  try clear hw14
  have hw16 := St.del (.tail (.tail .head)) hw15
  try clear hw15
  refine ⟨L', ?_, ?_, hw16.transS⟩
  ·rw [show (entS q).2.2 = 0 from by unfold entS; rw [if_neg (by omega)]; split <;> rfl]
   all_goals rfl
  ·unfold CacQ
   rw [if_pos hgood]
   exact ⟨p, _, hC⟩
theorem BuiltC (b : Nat) (L : Cac) (hL : L.length = 41) (s : Int) (w : World) (hb : (As.blk b 64 (cacC L)).ok w) (hm : (As.many (inR L)).ok w) :
  CallsV P 7 [.pointer (some ⟨b, 0, none⟩), .int .i64 s] w fun r w' => r = .int .i64 (if (0 ≤ s ∧ s < 41) ∧ hasP L s.toNat = true then 1 else 0) ∧ w = w' := by
 refine enterW Tryz.func7 rfl Tryz.ntmps7 rfl ?_
 refine c_seq (c_region (l_assign rfl rfl rfl (l_nil (e_then ?_))))
 refine c_keep [0, 1] (.cons rfl (.cons rfl .nil)) ?_
 refine c_seq (c_seq (c_region (l_move rfl rfl rfl ?_)))
 refine l_callp rfl rfl Tryz.func20 rfl rfl (.cons rfl .nil) (hasC s _) ?_
 first | refine l_notd rfl rfl rfl ?_ | refine l_not rfl rfl rfl ?_
 refine l_nil (e_then ?_)
 refine c_keep [0, 1, 7] (.cons rfl (.cons rfl (.cons rfl .nil))) ?_
 first | refine c_cond rfl (fun hc0 => ?_) (fun hc0 => ?_) | refine c_condb rfl (fun hc0 => ?_) (fun hc0 => ?_)
 ·skip
  refine c_seq (c_region (l_assign rfl rfl rfl (l_nil (e_then ?_))))
  refine c_keep [4] (.cons rfl .nil) ?_
  refine c_ret ?_
  refine e_then_ret ?_
  refine e_done1 Tryz.results7 rfl ?_
  refine ⟨_, rfl, ?_⟩
  exact ⟨by rw [if_neg (fun h => by simp [h.1] at hc0)], rfl⟩
 ·skip
  have hin : 0 ≤ s ∧ s < 41 := by simpa using hc0
  obtain ⟨x, hx⟩ : ∃ x, L[s.toNat]? = some x := ⟨L[s.toNat]'(by omega), List.getElem?_eq_getElem (by omega)⟩
  have hc3 : (cacC L)[s.toNat * 5 + 3]? = some (.int .i64 (if x.isSome = true then 1 else 0)) := by
   rw [cacC_at hx 3 (by omega)]
   cases x <;> rfl
  have hhp := hasP_at hx
  refine c_skip (e_then ?_)
  refine c_keep [0, 1] (.cons rfl (.cons rfl .nil)) ?_
  refine c_seq (c_region (l_move rfl rfl rfl (l_move rfl rfl rfl (l_nilCheck rfl rfl rfl (l_field fo64_0 rfl rfl rfl ?_)))))
  refine l_turn (s := 9) (v' := .int .i64 ((s.toNat : Nat) : Int)) rfl (congrArg (Value.int .i64) (by omega)) ?_
  refine l_indexAn (j := s.toNat) (n := 5) rfl rfl Tryz.underlying62 tz61 rfl rfl rfl (by omega) ?_
  refine l_field fo61_1 rfl rfl rfl ?_
  refine l_callp rfl rfl Tryz.func21 rfl rfl (.cons rfl .nil) (syLoadIR hb hc3) ?_
  refine l_assign rfl rfl rfl (l_nil (e_then ?_))
  refine c_keep [4] (.cons rfl .nil) ?_
  refine c_ret ?_
  refine e_done1 Tryz.results7 rfl ?_
  refine ⟨_, rfl, ?_⟩
  refine ⟨congrArg (Value.int .i64) ?_, rfl⟩
  rw [hhp]
  cases x
  ·rw [if_neg (by simp), if_neg (by simp)]
  ·rw [if_pos (by simp), if_pos (by simp [hin])]
theorem CompleteC (b : Nat) (L : Cac) (hL : L.length = 41) (s : Int) (w : World) (hb : (As.blk b 64 (cacC L)).ok w) (hm : (As.many (inR L)).ok w) :
  CallsV P 9 [.pointer (some ⟨b, 0, none⟩), .int .i64 s] w fun r w' => r = .bool (decide ((0 ≤ s ∧ s < 41) ∧ hasP L s.toNat = true)) ∧ w = w' := by
 refine enterW Tryz.func9 rfl Tryz.ntmps9 rfl ?_
 refine c_seq (c_region (l_assign rfl rfl rfl (l_nil (e_then ?_))))
 refine c_keep [0, 1] (.cons rfl (.cons rfl .nil)) ?_
 refine c_seq (c_region (l_move rfl rfl rfl ?_))
 refine l_callp rfl rfl Tryz.func20 rfl rfl (.cons rfl .nil) (hasC s _) ?_
 refine l_move rfl rfl rfl ?_
 apply l_and (q := hasP L s.toNat = true) 8 [] rfl rfl (.cons rfl .nil) rfl rfl (fun _ => rfl) rfl rfl rfl
 ·intro hg1_3
  obtain ⟨x, hx⟩ : ∃ x, L[s.toNat]? = some x := ⟨L[s.toNat]'(by omega), List.getElem?_eq_getElem (by omega)⟩
  have hhp := hasP_at hx
  refine l_move rfl rfl rfl (l_move rfl rfl rfl (l_nilCheck rfl rfl rfl (l_field fo64_0 rfl rfl rfl ?_)))
  refine l_turn (s := 9) (v' := .int .i64 ((s.toNat : Nat) : Int)) rfl (congrArg (Value.int .i64) (by omega)) ?_
  refine l_indexAn (j := s.toNat) (n := 5) rfl rfl Tryz.underlying62 tz61 rfl rfl rfl (by omega) ?_
  refine l_field fo61_2 rfl rfl rfl ?_
  refine l_callp rfl rfl Tryz.func22 rfl rfl (.cons rfl .nil) (cacLd hb hm hx) ?_
  refine l_neqp (by kernel_rfl) rfl rfl rfl rfl ?_
  refine l_turn (s := 15) (v' := .bool (decide (hasP L s.toNat = true))) rfl (by rw [hhp]; cases x <;> rfl) ?_
  refine l_nil ?_
  exact e_stays rfl (.cons rfl (congrArg Value.bool (decide_eq_true hg1_3).symm) .nil)
  all_goals infer_instance
 refine l_assign rfl rfl rfl (l_nil (e_then ?_))
 refine c_keep [4] (.cons rfl .nil) ?_
 refine c_ret ?_
 refine e_done1 Tryz.results9 rfl ?_
 refine ⟨_, rfl, ?_⟩
 exact ⟨rfl, rfl⟩
def heldN (L : Cac) : Nat → Int
 | 0 => 0
 | k + 1 => heldN L k + (if hasP L k = true then (firstS (k : Int)).2.1 else 0)
theorem first_len (k : Nat) (hk : k < 41) : ((entR (k : Int)).length : Int) = (firstS (k : Int)).2.1 ∧ 0 ≤ (firstS (k : Int)).2.1 ∧ (firstS (k : Int)).2.1 ≤ 16 := by
 have hf : (firstS (k : Int)).2.1 = if (k : Int) = 40 then 11 else 16 := by unfold firstS; rw [if_neg (by omega)]
 rw [entR_len, hf]
 split <;> omega
theorem heldN_bd (L : Cac) : ∀ k, k ≤ 41 → 0 ≤ heldN L k ∧ heldN L k ≤ 16 * k
 | 0, _ => by simp [heldN]
 | k + 1, h => by
  have ih := heldN_bd L k (by omega)
  have hf := first_len k (by omega)
  unfold heldN
  split <;> omega
inductive CacL (L : Cac) : List Int → Cac → Prop
 | nil : CacL L [] L
 | snoc {l : List Int} {L' L'' : Cac} {q : Int} (h : CacL L l L') (k : CacQ L' q L'') : CacL L (l ++ [q]) L''
def inQ (q : Int) : Prop := -342 ≤ q ∧ q ≤ 308
instance (q : Int) : Decidable (inQ q) := by unfold inQ; infer_instance
def warmE (l : List Int) : Int := if ∀ q ∈ l, inQ q then 0 else 60
theorem where_e (q : Int) : (whereS q).2.2 = if inQ q then 0 else 60 := by
 by_cases h : inQ q
 ·rw [if_pos h]
  unfold whereS
  rw [if_neg (by unfold inQ at h; omega)]
 ·rw [if_neg h]
  unfold whereS
  rw [if_pos (by unfold inQ at h; omega)]
theorem CacQ.len {L L' : Cac} {q : Int} (h : CacQ L q L') : L'.length = L.length := by
 unfold CacQ at h
 split at h
 ·obtain ⟨p, v, h⟩ := h
  exact h.len
 ·rw [h]
theorem CacQ.has {L L' : Cac} {q : Int} (h : CacQ L q L') (t : Nat) : hasP L' t = (decide (inQ q ∧ t = ((q + 342) / 16).toNat) || hasP L t) := by
 unfold CacQ at h
 split at h
 ·rename_i hq
  obtain ⟨p, v, h⟩ := h
  rw [h.has, show decide (inQ q ∧ t = ((q + 342) / 16).toNat) = decide (t = ((q + 342) / 16).toNat) from decide_eq_decide.2 ⟨fun h => h.2, fun h => ⟨hq, h⟩⟩]
 ·rename_i hq
  rw [h, decide_eq_false (fun h => hq h.1), Bool.false_or]
theorem CacL.len {L L' : Cac} {l : List Int} (h : CacL L l L') : L'.length = L.length := by
 induction h with
 | nil => rfl
 | snoc h k ih => rw [k.len, ih]
theorem CacL.has {L L' : Cac} {l : List Int} (h : CacL L l L') (t : Nat) : hasP L' t = (decide (∃ q ∈ l, inQ q ∧ t = ((q + 342) / 16).toNat) || hasP L t) := by
 induction h with
 | nil => simp
 | @snoc l L' L'' q h k ih =>
  rw [k.has, ih, ← Bool.or_assoc, ← Bool.decide_or]
  congr 1
  refine decide_eq_decide.2 ⟨fun h => ?_, fun ⟨x, hx, h⟩ => ?_⟩
  ·rcases h with h | ⟨x, hx, h⟩
   ·exact ⟨q, by simp, h⟩
   ·exact ⟨x, by simp [hx], h⟩
  ·rcases List.mem_append.1 hx with h1 | h1
   ·exact .inr ⟨x, h1, h⟩
   ·rw [List.mem_singleton.1 h1] at h
    exact .inl h
theorem HeldC (b : Nat) (L : Cac) (hL : L.length = 41) (w : World) (hb : (As.blk b 64 (cacC L)).ok w) (hm : (As.many (inR L)).ok w) :
  CallsV P 10 [.pointer (some ⟨b, 0, none⟩)] w fun r w' => r = .int .i64 (heldN L 41) ∧ w = w' := by
 refine enterW Tryz.func10 rfl Tryz.ntmps10 rfl ?_
 refine c_seq (c_region (l_assign rfl rfl rfl (l_nil (e_then ?_))))
 refine c_keep [0] (.cons rfl .nil) ?_
 refine c_seq (c_region (l_assign rfl rfl rfl (l_nil (e_then (c_seq ?_)))))
 refine c_seq (c_region (l_move rfl rfl rfl (l_nil (e_then (c_block ?_)))))
 refine c_loopk (ι := Nat) (fun (k : Nat) => 41 - k) (fun (k : Nat) (w' : World) => w = w' ∧ k ≤ 41) (fun (k : Nat) => [(3, .int .i64 (heldN L k)), (6, .int .i64 (k : Int))]) [0] (0) ?_ (.cons rfl .nil) ?_ ?_
 ·exact ⟨rfl, by omega⟩
 ·exact (.cons rfl (by first | rfl | (refine congrArg (Value.int _) ?_; omega)) (.cons rfl (by first | rfl | (refine congrArg (Value.int _) ?_; omega)) .nil))
 rintro k _ ⟨rfl, hk⟩
 show RunC P _ _ _ (_ :: _) _
 refine c_seq (c_region ?_)
 refine l_lss rfl rfl rfl rfl ?_
 refine l_nil (e_then (c_seq ?_))
 first | refine c_cond rfl (fun hc0 => ?_) (fun hc0 => ?_) | refine c_condb rfl (fun hc0 => ?_) (fun hc0 => ?_)
 ·skip
  refine c_skip (e_then ?_)
  refine c_keep [0, 3, 6] (.cons rfl (.cons rfl (.cons rfl .nil))) ?_
  refine c_seq (c_block (c_seq (c_region ?_)))
  have hk41 : k < 41 := by omega
  obtain ⟨x, hx⟩ : ∃ x, L[k]? = some x := ⟨L[k]'(by omega), List.getElem?_eq_getElem (by omega)⟩
  have hhp := hasP_at hx
  have hbn := heldN_bd L k (by omega)
  have hfl := first_len k hk41
  refine l_move rfl rfl rfl (l_assign rfl rfl rfl (l_nil (e_then ?_)))
  refine c_keep [0, 3, 4, 6] (.cons rfl (.cons rfl (.cons rfl (.cons rfl .nil)))) ?_
  refine c_seq (c_region (l_move rfl rfl rfl (l_move rfl rfl rfl (l_nilCheck rfl rfl rfl (l_field fo64_0 rfl rfl rfl ?_)))))
  refine l_indexAn (j := k) (n := 5) rfl rfl Tryz.underlying62 tz61 rfl rfl rfl (by omega) ?_
  refine l_field fo61_2 rfl rfl rfl ?_
  refine l_callp rfl rfl Tryz.func22 rfl rfl (.cons rfl .nil) (cacLd hb hm hx) ?_
  refine l_assign rfl rfl rfl (l_nil (e_then ?_))
  refine c_keep [0, 3, 5, 6] (.cons rfl (.cons rfl (.cons rfl (.cons rfl .nil)))) ?_
  refine c_seq (c_region (l_move rfl rfl rfl ?_))
  refine l_neqp (by kernel_rfl) rfl rfl rfl rfl ?_
  refine l_nil (e_then ?_)
  refine c_keep [0, 3, 5, 6, 17] (.cons rfl (.cons rfl (.cons rfl (.cons rfl (.cons rfl .nil))))) ?_
  first | refine c_cond rfl (fun hc1 => ?_) (fun hc1 => ?_) | refine c_condb rfl (fun hc1 => ?_) (fun hc1 => ?_)
  ·skip
   obtain ⟨y, rfl⟩ : ∃ y, x = some y := by
    cases x
    ·simp [pcP] at hc1
    ·exact ⟨_, rfl⟩
   have hik := cac_ik hm hx
   refine c_region (l_move rfl rfl rfl (l_move rfl rfl rfl (l_nilCheck rfl rfl rfl ?_)))
   refine l_load_blk (blk_st hik.1) mem0 rfl rfl Tryz.underlying81 rfl rfl rfl ?_
   have hik2 := hik.2
   refine k_len rfl rfl Tryz.underlying81 rfl (by first | assumption) ?_
   refine l_add rfl rfl rfl rfl (w_i64 (by omega)) ?_
   refine l_assign rfl rfl rfl (l_nil ?_)
   refine e_blk ?_
   refine e_then ?_
   refine c_keep [0, 3, 6] (.cons rfl (.cons rfl (.cons rfl .nil))) ?_
   refine c_region ?_
   refine l_add rfl rfl rfl rfl (w_i64 (by omega)) ?_
   refine l_move rfl rfl rfl (l_nil ?_)
   have hsn : heldN L (k + 1) = heldN L k + (firstS (k : Int)).2.1 := by
    show heldN L k + _ = _
    rw [if_pos (by rw [hhp]; rfl)]
   refine e_againk (i := (k)) (k + 1) ?_ ?_ (.cons rfl .nil) ?_
   ·first | omega | (simp; omega)
   ·exact ⟨rfl, by omega⟩
   ·exact (.cons rfl (by (refine congrArg (Value.int .i64) ?_; rw [hsn]; omega)) (.cons rfl (by first | rfl | (refine congrArg (Value.int _) ?_; omega)) .nil))
  ·skip
   refine c_skip ?_
   refine e_blk ?_
   refine e_then ?_
   refine c_keep [0, 3, 6] (.cons rfl (.cons rfl (.cons rfl .nil))) ?_
   refine c_region ?_
   refine l_add rfl rfl rfl rfl (w_i64 (by omega)) ?_
   refine l_move rfl rfl rfl (l_nil ?_)
   have hsn : heldN L (k + 1) = heldN L k := by
    show heldN L k + _ = _
    rw [if_neg (by rw [hhp]; cases x <;> simp [pcP] at hc1 ⊢)]
    omega
   refine e_againk (i := (k)) (k + 1) ?_ ?_ (.cons rfl .nil) ?_
   ·first | omega | (simp; omega)
   ·exact ⟨rfl, by omega⟩
   ·exact (.cons rfl (by rw [hsn]) (.cons rfl (by first | rfl | (refine congrArg (Value.int _) ?_; omega)) .nil))
 ·skip
  refine c_exit ?_
  refine e_then_exit ?_
  refine e_then_exit ?_
  refine e_blk_exit ?_
  refine e_then ?_
  refine c_keep [3] (.cons rfl .nil) ?_
  refine c_seq (c_region (l_move rfl rfl rfl (l_assign rfl rfl rfl (l_nil (e_then ?_)))))
  refine c_keep [2] (.cons rfl .nil) ?_
  refine c_ret ?_
  refine e_done1 Tryz.results10 rfl ?_
  refine ⟨_, rfl, ?_⟩
  obtain rfl : k = 41 := by omega
  exact ⟨rfl, rfl⟩
theorem WarmC (b : Nat) (L : Cac) (hL : L.length = 41) (v : Value) (l : List Int) (hl : Rg (-9223372036854775808) 9223372036854775807 l) (hll : l.length ≤ 1099511627776) (w : World) (hS : Sep w.heap.size (fps (cacW b L)) w (cacW b L)) (hv : ∀ w1 : World, (∀ k, k < w.heap.size → ¬ fps (cacW b L) k → w1.heap[k]? = w.heap[k]?) → IV w1 v (ints .i64 l)) :
  CallsV P 17 [.pointer (some ⟨b, 0, none⟩), v] w fun r w' => ∃ L', r = .int .i64 (warmE l) ∧ (if warmE l = 0 then CacL L l L' else L' = L) ∧ Trans w w' (cacW b L) (cacW b L') := by
 refine enterW Tryz.func17 rfl Tryz.ntmps17 rfl ?_
 have hw0 : St w w.heap.size (fps (cacW b L)) (cacW b L) w := St.startS hS
 refine c_seq (c_region (l_assign rfl rfl rfl (l_nil (e_then ?_))))
 refine c_keep [0, 1] (.cons rfl (.cons rfl .nil)) ?_
 refine c_seq (c_seq (c_region (l_move rfl rfl rfl ?_)))
 refine v_leni rfl rfl Tryz.underlying32 rfl (by first | exact hw0.ibl mem0 | exact hw0.ikM hv | assumption) ?_
 refine l_move rfl rfl rfl (l_nil (e_then (c_block ?_)))
 refine c_loopk (ι := Nat) (fun (i : Nat) => l.length - i) (fun (i : Nat) (w' : World) => St w w.heap.size (fps (cacW b L)) (cacW b L) w' ∧ i ≤ l.length ∧ ∀ j, j < i → inQ (l.getD j 0)) (fun (i : Nat) => [(17, .int .i64 (i : Int))]) [0, 1, 15, 16] (0) ?_ (.cons rfl (.cons rfl (.cons rfl (.cons rfl .nil)))) ?_ ?_
 ·exact ⟨hw0, by omega, fun j h => by omega⟩
 ·exact (.cons rfl (by first | rfl | (refine congrArg (Value.int _) ?_; omega)) .nil)
 rintro i w1 ⟨hw1, hi, hok⟩
 show RunC P _ _ _ (_ :: _) _
 refine c_seq (c_region ?_)
 refine l_lss rfl rfl rfl rfl ?_
 refine l_nil (e_then (c_seq ?_))
 first | refine c_cond rfl (fun hc0 => ?_) (fun hc0 => ?_) | refine c_condb rfl (fun hc0 => ?_) (fun hc0 => ?_)
 ·skip
  refine c_skip (e_then ?_)
  refine c_keep [0, 1, 15, 16, 17] (.cons rfl (.cons rfl (.cons rfl (.cons rfl (.cons rfl .nil))))) ?_
  refine c_seq (c_block (c_seq (c_region ?_)))
  have hi1 : i < l.length := by omega
  refine v_getr (j := i) rfl rfl rfl rfl Tryz.underlying32 tz3 Tryz.underlying3 rfl rfl (by first | exact hw1.ibl mem0 | exact hw1.ikM hv | assumption) (by assumption) rfl (by omega) (by first | omega | (simp; done) | (simp; omega)) (fun hb3_0 => ?_)
  refine l_assign rfl rfl rfl (l_nil (e_then ?_))
  refine c_keep [0, 1, 6, 15, 16, 17] (.cons rfl (.cons rfl (.cons rfl (.cons rfl (.cons rfl (.cons rfl .nil)))))) ?_
  refine c_seq (c_region ?_)
  have hbq := hl (l.getD i 0) (by rw [show l.getD i 0 = l[i] from by simp [List.getD, hi1]]; exact List.getElem_mem hi1)
  refine l_move rfl rfl rfl ?_
  refine l_callp rfl rfl Tryz.func24 rfl rfl (.cons rfl .nil) (whereP (l.getD i 0) (by omega) _) ?_
  refine l_move rfl rfl rfl (l_extract rfl rfl rfl rfl (l_extract rfl rfl rfl rfl (l_extract rfl rfl rfl rfl (l_assign rfl rfl rfl (l_assign rfl rfl rfl ?_)))))
  refine l_assign rfl rfl rfl (l_nil (e_then ?_))
  refine c_keep [0, 1, 9, 15, 16, 17] (.cons rfl (.cons rfl (.cons rfl (.cons rfl (.cons rfl (.cons rfl .nil)))))) ?_
  refine c_seq (c_region (l_move rfl rfl rfl ?_))
  refine l_neq rfl rfl rfl rfl ?_
  refine l_nil (e_then ?_)
  refine c_keep [0, 1, 9, 15, 16, 17, 28] (.cons rfl (.cons rfl (.cons rfl (.cons rfl (.cons rfl (.cons rfl (.cons rfl .nil))))))) ?_
  first | refine c_cond rfl (fun hc1 => ?_) (fun hc1 => ?_) | refine c_condb rfl (fun hc1 => ?_) (fun hc1 => ?_)
  ·skip
   have hnin : ¬ inQ (l.getD i 0) := fun h => hc1 (by rw [where_e, if_pos h])
   have hwe : warmE l = 60 := by
    unfold warmE
    rw [if_neg]
    intro h
    exact hnin (h _ (by rw [show l.getD i 0 = l[i] from by simp [List.getD, hi1]]; exact List.getElem_mem hi1))
   refine c_seq (c_region (l_move rfl rfl rfl (l_assign rfl rfl rfl (l_nil (e_then ?_)))))
   refine c_keep [4] (.cons rfl .nil) ?_
   refine c_ret ?_
   refine e_blk_ret ?_
   refine e_then_ret ?_
   refine e_then_ret ?_
   refine e_blk_ret ?_
   refine e_then_ret ?_
   refine e_done1 Tryz.results17 rfl ?_
   refine ⟨_, rfl, ?_⟩
   refine ⟨L, ?_, by rw [hwe]; rfl, hw1.transS⟩
   rw [hwe, where_e, if_neg hnin]
   all_goals rfl
  ·skip
   refine c_skip ?_
   refine e_blk ?_
   refine e_then ?_
   refine c_keep [0, 1, 15, 16, 17] (.cons rfl (.cons rfl (.cons rfl (.cons rfl (.cons rfl .nil))))) ?_
   refine c_region ?_
   refine l_add rfl rfl rfl rfl (w_i64 (by omega)) ?_
   refine l_move rfl rfl rfl (l_nil ?_)
   refine e_againk (i := (i)) (i + 1) ?_ ?_ (.cons rfl (.cons rfl (.cons rfl (.cons rfl .nil)))) ?_
   ·first | omega | (simp; omega)
   ·exact ⟨hw1, by omega, fun j h => by
     by_cases e : j = i
     ·subst e
      have hc : (whereS (l.getD j 0)).2.2 = 0 := by omega
      rw [where_e] at hc
      split at hc
      ·assumption
      ·omega
     ·exact hok j (by omega)⟩
   ·exact (.cons rfl (by first | rfl | (refine congrArg (Value.int _) ?_; omega)) .nil)
 ·skip
  refine c_exit ?_
  refine e_then_exit ?_
  refine e_then_exit ?_
  refine e_blk_exit ?_
  refine e_then ?_
  refine c_keep [0, 1] (.cons rfl (.cons rfl .nil)) ?_
  refine c_seq (c_seq (c_region ?_))
  have hall : ∀ q ∈ l, inQ q := fun q hq => by
   obtain ⟨j, hj, rfl⟩ := List.mem_iff_getElem.1 hq
   have := hok j (by omega)
   rwa [show l.getD j 0 = l[j] from by simp [List.getD, hj]] at this
  have hwe : warmE l = 0 := if_pos hall
  refine l_move rfl rfl rfl ?_
  refine v_leni rfl rfl Tryz.underlying32 rfl (by first | exact hw1.ibl mem0 | exact hw1.ikM hv | assumption) ?_
  refine l_move rfl rfl rfl (l_nil (e_then ?_))
  refine c_keep [0, 31, 32, 33] (.cons rfl (.cons rfl (.cons rfl (.cons rfl .nil)))) ?_
  refine c_block ?_
  refine c_loopk (ι := Nat × Cac) (fun (z0 : Nat × Cac) => match z0 with | ⟨i, L1⟩ => l.length - i) (fun (z0 : Nat × Cac) (w' : World) => match z0 with | ⟨i, L1⟩ => St w w.heap.size (fps (cacW b L)) (cacW b L1) w' ∧ i ≤ l.length ∧ L1.length = 41 ∧ CacL L (l.take i) L1) (fun (z0 : Nat × Cac) => match z0 with | ⟨i, L1⟩ => [(33, .int .i64 (i : Int))]) [0, 31, 32] (0, L) ?_ (.cons rfl (.cons rfl (.cons rfl .nil))) ?_ ?_
  ·exact ⟨hw1, by omega, hL, .nil⟩
  ·exact (.cons rfl (by first | rfl | (refine congrArg (Value.int _) ?_; omega)) .nil)
  rintro ⟨i, L1⟩ w2 ⟨hw2, hi, hL1, hCL⟩
  show RunC P _ _ _ (_ :: _) _
  refine c_seq (c_region ?_)
  refine l_lss rfl rfl rfl rfl ?_
  refine l_nil (e_then (c_seq ?_))
  first | refine c_cond rfl (fun hc2 => ?_) (fun hc2 => ?_) | refine c_condb rfl (fun hc2 => ?_) (fun hc2 => ?_)
  ·skip
   refine c_skip (e_then ?_)
   refine c_keep [0, 31, 32, 33] (.cons rfl (.cons rfl (.cons rfl (.cons rfl .nil)))) ?_
   refine c_seq (c_block (c_seq (c_region ?_)))
   have hi1 : i < l.length := by omega
   have hmem : l.getD i 0 ∈ l := by rw [show l.getD i 0 = l[i] from by simp [List.getD, hi1]]; exact List.getElem_mem hi1
   have hbq := hl _ hmem
   have hin := hall _ hmem
   have ewe : whereS (l.getD i 0) = ((l.getD i 0 + 342) / 16, (l.getD i 0 + 342) % 16, 0) := if_neg (by have := hin.1; have := hin.2; omega)
   refine v_getr (j := i) rfl rfl rfl rfl Tryz.underlying32 tz3 Tryz.underlying3 rfl rfl (by first | exact hw2.ibl mem0 | exact hw2.ikM hv | assumption) (by assumption) rfl (by omega) (by first | omega | (simp; done) | (simp; omega)) (fun hb10_0 => ?_)
   refine l_assign rfl rfl rfl (l_nil (e_then ?_))
   refine c_keep [0, 11, 31, 32, 33] (.cons rfl (.cons rfl (.cons rfl (.cons rfl (.cons rfl .nil))))) ?_
   refine c_seq (c_region (l_move rfl rfl rfl ?_))
   refine l_callp rfl rfl Tryz.func24 rfl rfl (.cons rfl .nil) (whereP (l.getD i 0) (by omega) _) ?_
   refine l_move rfl rfl rfl (l_extract rfl rfl rfl rfl (l_extract rfl rfl rfl rfl (l_extract rfl rfl rfl rfl (l_assign rfl rfl rfl (l_assign rfl rfl rfl ?_)))))
   refine l_assign rfl rfl rfl (l_nil (e_then ?_))
   refine c_keep [0, 12, 31, 32, 33] (.cons rfl (.cons rfl (.cons rfl (.cons rfl (.cons rfl .nil))))) ?_
   refine c_region (l_move rfl rfl rfl (l_move rfl rfl rfl ?_))
   refine l_turn (s := 44) (v' := .int .i64 (((l.getD i 0 + 342) / 16).toNat : Int)) rfl (congrArg (Value.int .i64) (by rw [ewe]; dsimp only; have := hin.1; have := hin.2; omega)) ?_
   refine l_call rfl rfl Tryz.func25 rfl rfl (.cons rfl (.cons rfl .nil)) (completeC b L1 (by omega) ((l.getD i 0 + 342) / 16).toNat (by have := hin.1; have := hin.2; omega) w2 (St.rows (τ := cacW b L1) hw2)) ?_
   rintro v2 w3 ⟨_, L2, p, rfl, hC, hX⟩
   have hw3 := hX _ _ _ _ hw2
   simp only [cacW, List.cons_append, List.nil_append] at hw3
   try clear hX hw2
   refine l_nil ?_
   refine e_blk ?_
   refine e_then ?_
   refine c_keep [0, 31, 32, 33] (.cons rfl (.cons rfl (.cons rfl (.cons rfl .nil)))) ?_
   refine c_region ?_
   refine l_add rfl rfl rfl rfl (w_i64 (by omega)) ?_
   refine l_move rfl rfl rfl (l_nil ?_)
   have hQ : CacQ L1 (l.getD i 0) L2 := by unfold CacQ; rw [if_pos (show -342 ≤ l.getD i 0 ∧ l.getD i 0 ≤ 308 from hin)]; exact ⟨p, _, hC⟩
   have htk : l.take (i + 1) = l.take i ++ [l.getD i 0] := by rw [List.take_add_one, List.getD_eq_getElem?_getD, List.getElem?_eq_getElem hi1]; rfl
   refine e_againk (i := (i, L1)) (i + 1, L2) ?_ ?_ (.cons rfl (.cons rfl (.cons rfl .nil))) ?_
   ·first | omega | (simp; omega)
   ·exact ⟨hw3, by omega, by rw [hC.len]; exact hL1, by rw [htk]; exact .snoc hCL hQ⟩
   ·exact (.cons rfl (by first | rfl | (refine congrArg (Value.int _) ?_; omega)) .nil)
  ·skip
   refine c_exit ?_
   refine e_then_exit ?_
   refine e_then_exit ?_
   refine e_blk_exit ?_
   refine e_then ?_
   refine c_keep [] .nil ?_
   refine c_seq (c_region (l_assign rfl rfl rfl (l_nil (e_then ?_))))
   refine c_ret ?_
   refine e_done1 Tryz.results17 rfl ?_
   refine ⟨_, rfl, ?_⟩
   obtain rfl : i = l.length := by omega
   rw [List.take_length] at hCL
   exact ⟨L1, by rw [hwe], by rw [hwe, if_pos rfl]; exact hCL, hw2.transS⟩
end Go.Proofs.YtggdkplphfofkaaGreat.W
